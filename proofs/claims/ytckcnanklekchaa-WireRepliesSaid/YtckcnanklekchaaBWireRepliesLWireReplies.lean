/- The law on replies. -/
import Derived.Test.YtckcnanklekchaaProg
import Derived.Below
import Derived.Deep.Draws
import Derived.Deep.AppendLies
import Derived.Maps.AppendAt
import Derived.OwnWalk
import Derived.Laws.BytesArg
import Derived.Laws.MakeOwn
import Derived.Laws.OwnMore
import Derived.Deep.OwnRows
import Derived.Tactics
import Derived.Lib.ConvBytes
import Derived.Laws.Slices
import Derived.WalkKit
import Derived.KernelRfl
import Derived.RowKit3
import Derived.Deep.LoopGhost
import Derived.Deep.QuietTactic
import Derived.BigQuiet
import Derived.WideLaws
import Derived.Deep.DeepCutAuto
import Derived.Deep.CutBlock
import Derived.Deep.RegionHeld3
import Derived.Laws.Rows
import Derived.Lib.AppendStr
import Derived.ArgAppend
import Derived.Laws.IdiomCopy
import Derived.OrdersHeld
import Derived.Laws.BitsLemmas
import Derived.RowKit
import Derived.Lib.Hide
import Derived.WalkSpells
import Derived.StillTailTactics
import Derived.Outline
import Derived.OrdersHeld
import Derived.Deep.RegionHeld3
import Derived.Test.YtckcnanklekchaaBWireRepliesRep3
namespace Go.Proofs.Ytckcnanklekchaa.Rep
open Go Go.RowKit Go.Proofs.Ytckcnanklekchaa.Mem Go.Proofs.Ytckcnanklekchaa.Bits Go.Proofs.YtckcnanklekchaaW.PrintWords Go.Proofs.YtckcnanklekchaaW.PrintLast
open Go.Proofs.Ytckcnanklekchaa.Pack
set_option linter.unusedVariables false

def GotR (b : List Int) (n e : Nat) (d : List Int) (ok : Bool) (er : Int) : Prop := d.length ≤ 500 ∧ (ok = true → er = 0) ∧ (ok = false → er = 21) ∧
  (∀ (A : Option Addr) (c : Nat) (w0 W : World), Below w0.heap.size w0 W → (Kd.int .u8).C w0 A b.length b → b.length ≤ c →
    Calls Try.prog 16 #[.slice A b.length c] W fun x w' => ∃ A m c, m = d.length ∧ m ≤ c ∧ x = .returned (.tuple #[.agg #[.int .u64 n, .int .i64 e, .slice A m c], .int .i64 er]) ∧ (Kd.int .u8).C w' A m d ∧ Below W.heap.size W w') ∧
  (∀ (A : Option Addr) (c : Nat) (W : World), (Kd.int .u8).C W A b.length b → b.length ≤ c →
    Calls Try.prog 17 #[.slice A b.length c] W fun x w' => ∃ A m c, m = d.length ∧ m ≤ c ∧ x = .returned (.tuple #[.agg #[.int .u64 n, .int .i64 e, .slice A m c], .bool ok]) ∧ (Kd.int .u8).C w' A m d ∧ Below W.heap.size W w')
theorem gotr_yes (b : List Int) (hl : b.length ≤ 500) (hb : AllB b) (h : okR b) : GotR b (rN b) (rE b) (b.drop 9) true 0 := by
  refine ⟨by rw [List.length_drop]; omega, fun _ => rfl, fun h => absurd h (by decide), fun A c w0 W hB hr hc => ?_, fun A c W hr hc => ?_⟩
  · refine (rparse_any A c b w0 W hB hr hc (by omega) hb).mono ?_
    rintro e w' (⟨A, m, c, _, hm, hc, rfl, hd, hb⟩ | ⟨hn, _⟩)
    · exact ⟨A, m, c, hm, hc, rfl, hd, hb⟩
    · exact absurd h hn
  · refine (refrparse_any A c b W hr hc (by omega) hb).mono ?_
    rintro e w' (⟨A, m, c, _, hm, hc, rfl, hd, hb⟩ | ⟨hn, _⟩)
    · exact ⟨A, m, c, hm, hc, rfl, hd, hb⟩
    · exact absurd h hn
theorem gotr_no (b : List Int) (hl : b.length ≤ 500) (hb : AllB b) (h : ¬ okR b) : GotR b 0 0 [] false 21 := by
  refine ⟨by decide, fun h => absurd h (by decide), fun _ => rfl, fun A c w0 W hB hr hc => ?_, fun A c W hr hc => ?_⟩
  · refine (rparse_any A c b w0 W hB hr hc (by omega) hb).mono ?_
    rintro e w' (⟨A, m, c, hn, _⟩ | ⟨_, rfl, hb⟩)
    · exact absurd hn h
    · exact ⟨none, 0, 0, rfl, by decide, rfl, Kd.C_nil _ _, hb⟩
  · refine (refrparse_any A c b W hr hc (by omega) hb).mono ?_
    rintro e w' (⟨A, m, c, hn, _⟩ | ⟨_, rfl, hb⟩)
    · exact absurd hn h
    · exact ⟨none, 0, 0, rfl, by decide, rfl, Kd.C_nil _ _, hb⟩
theorem gotr (b : List Int) (hl : b.length ≤ 500) (hb : AllB b) : ∃ n e d ok er, GotR b n e d ok er := by
  by_cases h : okR b
  · exact ⟨_, _, _, _, _, gotr_yes b hl hb h⟩
  · exact ⟨_, _, _, _, _, gotr_no b hl hb h⟩
theorem backr (n e : Nat) (data : List Int) (hd : data.length ≤ 300) (hb : AllB data) (hr : e = 0 ∨ data.length = 0) (hn : n < 18446744073709551616) (he : e < 256) :
    GotR (leB n 8 ++ (leB e 1 ++ data)) n e data true 0 := by
  obtain ⟨b, hb'⟩ : ∃ b, b = leB n 8 ++ (leB e 1 ++ data) := ⟨_, rfl⟩
  have ap : ∀ xs ys : List Int, AllB xs → AllB ys → AllB (xs ++ ys) := fun xs ys h1 h2 x hx => (List.mem_append.1 hx).elim (h1 x) (h2 x)
  have hbb : AllB b := by rw [hb']; exact ap _ _ (leB_b' _ _) (ap _ _ (leB_b' _ _) hb)
  have hl : b.length = 9 + data.length := by rw [hb']; simp [leB_len]; omega
  have d8 : b.drop 8 = leB e 1 ++ data := by rw [hb', List.drop_left' (leB_len _ _)]
  have d9 : b.drop 9 = data := by rw [show (9 : Nat) = 8 + 1 from rfl, ← List.drop_drop, d8, List.drop_left' (leB_len _ _)]
  have e1 : rN b = n := by
    unfold rN; rw [hb', List.take_left' (leB_len _ _), leN_leB]; exact Nat.mod_eq_of_lt (by omega)
  have e2 : rE b = e := by
    unfold rE; rw [d8, List.take_left' (leB_len _ _), leN_leB]; exact Nat.mod_eq_of_lt (by omega)
  have h := gotr_yes b (by omega) hbb ⟨by omega, by rw [e2, d9]; exact hr⟩
  rw [e1, e2, d9] at h
  rw [← hb']
  exact h
theorem rep_len (n e : Int) (A0 : Option Addr) (m0 c0 : Nat) (A1 : Option Addr) (m1 c1 : Nat) (w : World) (h : 300 < m0 ∨ 500 < m1) :
    Calls Try.prog 4 #[.agg #[.int .u64 n, .int .i64 e, .slice A0 m0 c0], .slice A1 m1 c1] w fun e w' => e = .returned (.bool true) ∧ Below w.heap.size w w' := by
  obtain ⟨W1, hW1⟩ : ∃ W1, W1 = w.alloc (.cells #[.int .u64 n, .int .i64 e, .slice A0 m0 c0] 45) := ⟨_, rfl⟩
  have hB1 : Below w.heap.size w W1 := by rw [hW1]; exact (Below.refl _ _).alloc (Nat.le_refl _) _
  have HB5 := Lib.hid hB1
  have hQ1 : Blk W1 w.heap.size 45 #[.int .u64 n, .int .i64 e, .slice A0 m0 c0] := by rw [hW1]; exact Blk.new _ _ _
  have y7 : W1.cell? ⟨w.heap.size, 2, none⟩ = some (.slice A0 m0 c0) := (hQ1.cell 2).trans rfl
  have HW1 := Lib.hid hW1
  clear hW1 hB1 hQ1
  by_cases h0 : 300 < m0
  · have d0 : decide ((m0 : Int) > 300) = true := by simp; omega
    have d1 : (300 : Int) < (m0 : Int) := by omega
    clear h
    go_enter Try.func4, Try.ntmps4
    go_upto_region 1 with (fail)
    rw [← HW1.out]
    go_wp2_with (go_at_call 5; (with_reducible refine (awake_calls _).mono ?_); rintro x v1 ⟨rfl, hb⟩; have HB9 := Lib.hid (HB5.out.trans (hb.mono HB5.out.size)); clear hb)
    go_ret
    exact ⟨rfl, HB9.out⟩
  · have d0 : decide ((m0 : Int) > 300) = false := by simp; omega
    have d1 : ¬ (300 : Int) < (m0 : Int) := by omega
    have d2 : decide ((m1 : Int) > 500) = true := by simp; omega
    have d3 : (500 : Int) < (m1 : Int) := by omega
    clear h
    go_enter Try.func4, Try.ntmps4
    go_upto_region 1 with (fail)
    rw [← HW1.out]
    go_wp2_with (go_at_call 5; (with_reducible refine (awake_calls _).mono ?_); rintro x v1 ⟨rfl, hb⟩; have HB9 := Lib.hid (HB5.out.trans (hb.mono HB5.out.size)); clear hb)
    go_ret
    exact ⟨rfl, HB9.out⟩
set_option maxRecDepth 100000 in
set_option maxHeartbeats 4000000 in
theorem reps_good (n : Nat) (E : Int) (A0 : Option Addr) (m0 c0 : Nat) (data : List Int) (A1 : Option Addr) (m1 c1 : Nat) (b : List Int) (w : World) (hr0 : (Kd.int .u8).C w A0 m0 data) (hm0 : m0 = data.length) (hc0 : m0 ≤ c0) (hl0 : m0 ≤ 300) (hb0 : AllB data)
    (hr1 : (Kd.int .u8).C w A1 m1 b) (hm1 : m1 = b.length) (hc1 : m1 ≤ c1) (hl1 : m1 ≤ 500) (hb1 : AllB b) (hn : n < 18446744073709551616) :
    Calls Try.prog 4 #[.agg #[.int .u64 n, .int .i64 E, .slice A0 m0 c0], .slice A1 m1 c1] w fun e w' => e = .returned (.bool true) ∧ Below w.heap.size w w' := by
  obtain ⟨W1, hW1⟩ : ∃ W1, W1 = w.alloc (.cells #[.int .u64 n, .int .i64 E, .slice A0 m0 c0] 45) := ⟨_, rfl⟩
  have hB1 : Below w.heap.size w W1 := by rw [hW1]; exact (Below.refl _ _).alloc (Nat.le_refl _) _
  obtain ⟨Q0, hQ0⟩ : ∃ Q0, Q0 = w.heap.size := ⟨_, rfl⟩
  have hQ1 : Blk W1 Q0 45 #[.int .u64 n, .int .i64 E, .slice A0 m0 c0] := by rw [hW1, hQ0]; exact Blk.new _ _ _
  obtain ⟨n1, k1, d1, ok, er, hd, hok, hno, hP, hR⟩ := gotr b (by omega) hb1
  rw [← hm1] at hP hR
  have P1 := Lib.hid (hP A1 c1 w W1 hB1 hr1 hc1)
  have P2 := Lib.hid (fun W (hB : Below w.heap.size w W) => hR A1 c1 W (Kd.C_below hr1 hB) hc1)
  have HB1 := Lib.hid hB1
  have HQ1 := Lib.hid hQ1
  have HW1 := Lib.hid hW1
  have HQ0 := Lib.hid hQ0
  have HOK := Lib.hid hok
  have HNO := Lib.hid hno
  have HR0 := Lib.hid hr0
  have HM0 := Lib.hid hm0
  have HC0 := Lib.hid hc0
  have HL0 := Lib.hid hl0
  have HNB := Lib.hid hn
  have CB := Lib.hid (fun (e : Nat) (he : e < 256) (hz : e = 0 ∨ m0 = 0) => backr n e data (by omega) hb0 (by rw [← hm0]; exact hz) hn he)
  have f0 : decide ((m0 : Int) > 300) = false := by simp; omega
  have f1 : ¬ (300 : Int) < (m0 : Int) := by omega
  have f2 : decide ((m1 : Int) > 500) = false := by simp; omega
  have f3 : ¬ (500 : Int) < (m1 : Int) := by omega
  obtain ⟨⟨q0, q1, q2⟩, _⟩ := blk3 hQ1
  clear hB1 hQ1 hW1 hQ0 hd hok hno hP hR hr0 hm0 hc0 hl0 hb0 hr1 hm1 hc1 hl1 hb1 hn
  go_enter Try.func4, Try.ntmps4
  go_upto_region 1 with (fail)
  rw [← HW1.out, ← HQ0.out]
  go_upto_region 4 with (go_at_call 16; (with_reducible refine P1.out.mono ?_); rintro x u1 ⟨A2, m2, c2, hm2, hc2, rfl, hr2, hb2⟩; have HM2 := Lib.hid hm2; have HC2 := Lib.hid hc2; have HR2 := Lib.hid hr2; have HB2 := Lib.hid (HB1.out.trans (hb2.mono HB1.out.size)); have HQ2 := Lib.hid (Blk.below HQ1.out hb2 (Blk.lt HQ1.out)); clear hm2 hc2 hr2 hb2)
  clear q0 q1 q2
  obtain ⟨W2, hW2⟩ : ∃ W2, W2 = u1.alloc (.cells #[.int .u64 n1, .int .i64 k1, .slice A2 m2 c2] 47) := ⟨_, rfl⟩
  obtain ⟨T0, hT0⟩ : ∃ T0, T0 = u1.heap.size := ⟨_, rfl⟩
  have hb3 : Below u1.heap.size u1 W2 := by rw [hW2]; exact (Below.refl _ _).alloc (Nat.le_refl _) _
  have HT3 := Lib.hid (show Blk W2 T0 47 #[.int .u64 n1, .int .i64 k1, .slice A2 m2 c2] by rw [hW2, hT0]; exact Blk.new _ _ _)
  have HB3 := Lib.hid (HB2.out.trans (hb3.mono HB2.out.size))
  have HQ3 := Lib.hid (Blk.below HQ2.out hb3 (Blk.lt HQ2.out))
  have HR3 := Lib.hid (Kd.C_below HR2.out hb3)
  rw [← hW2, ← hT0]
  clear hW2 hT0 hb3
  go_upto_region 5 with (go_at_call 17; (with_reducible refine (P2.out _ HB3.out).mono ?_); rintro x u2 ⟨A4, m4, c4, hm2, hc2, rfl, hr2, hb2⟩; have HM4 := Lib.hid hm2; have HC4 := Lib.hid hc2; have HR4 := Lib.hid hr2; have HB4 := Lib.hid (HB3.out.trans (hb2.mono HB3.out.size)); have HQ4 := Lib.hid (Blk.below HQ3.out hb2 (Blk.lt HQ3.out)); have HT4 := Lib.hid (Blk.below HT3.out hb2 (Blk.lt HT3.out)); have HS4 := Lib.hid (Kd.C_below HR3.out hb2); clear hm2 hc2 hr2 hb2)
  obtain ⟨W4, hW4⟩ : ∃ W4, W4 = u2.alloc (.cells #[.int .u64 n1, .int .i64 k1, .slice A4 m4 c4] 45) := ⟨_, rfl⟩
  obtain ⟨U0, hU0⟩ : ∃ U0, U0 = u2.heap.size := ⟨_, rfl⟩
  have hb3 : Below u2.heap.size u2 W4 := by rw [hW4]; exact (Below.refl _ _).alloc (Nat.le_refl _) _
  have HU5 := Lib.hid (show Blk W4 U0 45 #[.int .u64 n1, .int .i64 k1, .slice A4 m4 c4] by rw [hW4, hU0]; exact Blk.new _ _ _)
  have HB5 := Lib.hid (HB4.out.trans (hb3.mono HB4.out.size))
  have HQ5 := Lib.hid (Blk.below HQ4.out hb3 (Blk.lt HQ4.out))
  have HT5 := Lib.hid (Blk.below HT4.out hb3 (Blk.lt HT4.out))
  have HR5 := Lib.hid (Kd.C_below HS4.out hb3)
  have HS5 := Lib.hid (Kd.C_below HR4.out hb3)
  rw [← hW4, ← hU0]
  clear hW4 hU0 hb3
  have s1 := str_reads (c := c2) (Kd.reads_of_C (d := (0 : Int)) HR5.out)
  have s2 := str_reads (c := c4) (Kd.reads_of_C (d := (0 : Int)) HS5.out)
  obtain ⟨⟨t0, t1, t2⟩, _⟩ := blk3 HT5.out
  obtain ⟨⟨r0, r1, r2⟩, _⟩ := blk3 HU5.out
  obtain ⟨⟨q0, q1, q2⟩, _⟩ := blk3 HQ5.out
  cases ok
  case true =>
    have he := HOK.out rfl
    subst he
    go_upto_region 7 with (fail)
    clear s1 s2 t0 t1 t2 r0 r1 r2
    by_cases h1 : E < 0
    · have b1 : decide (E < 0) = true := by simp; omega
      clear CB
      go_wp2_with (go_at_call 5; (with_reducible refine (awake_calls _).mono ?_); rintro x v1 ⟨rfl, hb⟩; have HB9 := Lib.hid (HB5.out.trans (hb.mono HB5.out.size)); clear hb)
      go_ret
      exact ⟨rfl, HB9.out⟩
    · have b1 : decide (E < 0) = false := by simp; omega
      by_cases h2 : 255 < E
      · have b2 : decide (E > 255) = true := by simp; omega
        clear CB
        go_wp2_with (go_at_call 5; (with_reducible refine (awake_calls _).mono ?_); rintro x v1 ⟨rfl, hb⟩; have HB9 := Lib.hid (HB5.out.trans (hb.mono HB5.out.size)); clear hb)
        go_ret
        exact ⟨rfl, HB9.out⟩
      · have b2 : decide (E > 255) = false := by simp; omega
        have b2' : ¬ 255 < E := h2
        by_cases h3 : E ≠ 0 ∧ 0 < m0
        · have b3 : (E != 0) = true := by simp; omega
          have b4 : decide ((m0 : Int) > 0) = true := by simp; omega
          have b5 : ¬ E = 0 := h3.1
          have b6 : (0 : Int) < (m0 : Int) := by omega
          clear CB h3
          go_wp2_with (go_at_call 5; (with_reducible refine (awake_calls _).mono ?_); rintro x v1 ⟨rfl, hb⟩; have HB9 := Lib.hid (HB5.out.trans (hb.mono HB5.out.size)); clear hb)
          go_ret
          exact ⟨rfl, HB9.out⟩
        · have b3 : (if E != 0 then decide ((m0 : Int) > 0) else false) = false := by
            by_cases hE : E = 0
            · simp [hE]
            · have : ¬ 0 < m0 := fun h => h3 ⟨hE, h⟩
              simp; omega
          obtain ⟨e, rfl, he⟩ : ∃ e : Nat, E = e ∧ e < 256 := ⟨E.toNat, by omega, by omega⟩
          have HE := Lib.hid he
          have hz : e = 0 ∨ m0 = 0 := by omega
          have HZ := Lib.hid hz
          have CBB := Lib.hid (CB.out e he hz)
          have CY := Lib.hid (fun W (hB : Below w.heap.size w W) => rep_bytes n e A0 m0 c0 data w W hB HR0.out HM0.out HC0.out HNB.out HE.out (by have := HL0.out; omega))
          have CZ := Lib.hid (fun W (hB : Below w.heap.size w W) => refrep_any n e A0 m0 c0 data w W hB HR0.out HM0.out HC0.out HNB.out HE.out (by have := HL0.out; omega))
          clear he hz h1 h2 h3 CB b3
          rcases HZ.out with hz | hz
          · have b3 : ((e : Int) != 0) = false := by simp [hz]
            clear hz
            go_upto_region 10 with (go_at_call 18; (with_reducible refine (CY.out _ HB5.out).mono ?_); rintro x v2 ⟨A6, m6, c6, hm6, rfl, ho6, hb⟩; have HM6 := Lib.hid hm6; have HO6 := Lib.hid ho6; have HB12 := Lib.hid hb; clear hb hm6 ho6)
            have CP := Lib.hid (CBB.out.2.2.2.1 A6 c6 v2 v2 (Below.refl _ _) (Kd.C_of_reads (d := (0 : Int)) (by rw [← HM6.out]; exact own_reads' HO6.out)) (by rw [← HM6.out]; exact own_le HO6.out))
            rw [← HM6.out] at CP
            go_upto_region 11 with (go_at_call 16; (with_reducible refine CP.out.mono ?_); rintro x v4 ⟨A8, m8, c8, hm8, hc8, rfl, hr8, hb⟩; have HM8 := Lib.hid hm8; have HC8 := Lib.hid hc8; have HR8 := Lib.hid hr8; have HB14 := Lib.hid (HB12.out.trans (hb.mono HB12.out.size)); have HO8 := Lib.hid (pw_own_below HO6.out hb); clear hb hm8 hc8 hr8)
            obtain ⟨W8, hW8⟩ : ∃ W8, W8 = v4.alloc (.cells #[.int .u64 n, .int .i64 e, .slice A8 m8 c8] 47) := ⟨_, rfl⟩
            obtain ⟨V0, hV0⟩ : ∃ V0, V0 = v4.heap.size := ⟨_, rfl⟩
            have hb3 : Below v4.heap.size v4 W8 := by rw [hW8]; exact (Below.refl _ _).alloc (Nat.le_refl _) _
            have HV8 := Lib.hid (show Blk W8 V0 47 #[.int .u64 n, .int .i64 e, .slice A8 m8 c8] by rw [hW8, hV0]; exact Blk.new _ _ _)
            have HB15 := Lib.hid (HB14.out.trans (hb3.mono HB14.out.size))
            have HQ8 := Lib.hid (Blk.below HQ5.out HB15.out (Blk.lt HQ5.out))
            have HR9 := Lib.hid (Kd.C_below HR8.out hb3)
            have HO9 := Lib.hid (pw_own_below HO8.out hb3)
            rw [← hW8, ← hV0]
            clear hW8 hV0 hb3
            have HBW := Lib.hid (show Below w.heap.size w W8 from HB5.out.trans (HB15.out.mono HB5.out.size))
            have S8 := Lib.hid (fun W (hB : Below W8.heap.size W8 W) => show ((W.cell? ⟨Q0, 0, none⟩ = some (.int .u64 n) ∧ W.cell? ⟨Q0, 1, none⟩ = some (.int .i64 e) ∧ W.cell? ⟨Q0, 2, none⟩ = some (.slice A0 m0 c0)) ∧ (W.cell? ⟨V0, 0, none⟩ = some (.int .u64 n) ∧ W.cell? ⟨V0, 1, none⟩ = some (.int .i64 e) ∧ W.cell? ⟨V0, 2, none⟩ = some (.slice A8 m8 c8)) ∧ (convert 27 9 (.slice A6 m6 c6)).run Try.prog W = .ok (.string (strOfNums (leB n 8 ++ (leB e 1 ++ data)))) W ∧ (convert 27 9 (.slice A8 m8 c8)).run Try.prog W = .ok (.string (strOfNums data)) W ∧ (convert 27 9 (.slice A0 m0 c0)).run Try.prog W = .ok (.string (strOfNums data)) W) from ⟨(blk3 (Blk.below HQ8.out hB (Blk.lt HQ8.out))).1, (blk3 (Blk.below HV8.out hB (Blk.lt HV8.out))).1, str_reads (own_reads' (pw_own_below HO9.out hB)), str_reads (Kd.reads_of_C (d := (0 : Int)) (Kd.C_below HR9.out hB)), str_reads (Kd.reads_of_C (d := (0 : Int)) (Kd.C_below HR0.out (HBW.out.trans (hB.mono HBW.out.size))))⟩)
            have HB8 := Lib.hid (show Below W8.heap.size W8 W8.drew from (Below.refl _ _).drew)
            refine wp_region_noPanic ?_
            refine wp_region_held_drew (S := (fun W => ((W.cell? ⟨Q0, 0, none⟩ = some (.int .u64 n) ∧ W.cell? ⟨Q0, 1, none⟩ = some (.int .i64 e) ∧ W.cell? ⟨Q0, 2, none⟩ = some (.slice A0 m0 c0)) ∧ (W.cell? ⟨V0, 0, none⟩ = some (.int .u64 n) ∧ W.cell? ⟨V0, 1, none⟩ = some (.int .i64 e) ∧ W.cell? ⟨V0, 2, none⟩ = some (.slice A8 m8 c8)) ∧ (convert 27 9 (.slice A6 m6 c6)).run Try.prog W = .ok (.string (strOfNums (leB n 8 ++ (leB e 1 ++ data)))) W ∧ (convert 27 9 (.slice A8 m8 c8)).run Try.prog W = .ok (.string (strOfNums data)) W ∧ (convert 27 9 (.slice A0 m0 c0)).run Try.prog W = .ok (.string (strOfNums data)) W))) (by kernel_rfl) ?_ (fun hHeld => ?_)
            · ((try dsimp only); exact S8.out _ HB8.out)
            refine wpAnyH_take (i := 0) (oi := { dst := some 100, op := Go.Op.move (Go.Operand.tmp 9), type := 27, pos := "law.go:56", after := #[], guard := none }) (v := ?_) rfl (by kernel_rfl) (by kernel_rfl) (by kernel_rfl) (fun _ _ _ h => h) (Or.inl ⟨by rfl, ?_⟩) (by assumption) ?_
            rotate_left 1
            · (intro w hSw; (try dsimp only at hSw); go_simp; try with_reducible rfl)
            try simp only [Act.put, List.setIfInBounds_toArray, List.set_cons_zero, List.set_cons_succ]
            refine wpAnyH_take (i := 1) (oi := { dst := some 101, op := Go.Op.convert 27 9 (Go.Operand.tmp 100), type := 9, pos := "law.go:56", after := #[{ on := 0, ground := Go.Ground.data }], guard := none }) (v := ?_) rfl (by kernel_rfl) (by kernel_rfl) (by kernel_rfl) (fun _ _ _ h => h) (Or.inl ⟨by rfl, ?_⟩) (by assumption) ?_
            rotate_left 1
            · (intro w hSw; (try dsimp only at hSw); go_simp; try with_reducible rfl)
            try simp only [Act.put, List.setIfInBounds_toArray, List.set_cons_zero, List.set_cons_succ]
            refine wpAnyH_take (i := 2) (oi := { dst := some 102, op := Go.Op.load 45 (Go.Operand.tmp 2), type := 45, pos := "law.go:56", after := #[], guard := none }) (v := ?_) rfl (by kernel_rfl) (by kernel_rfl) (by kernel_rfl) (fun _ _ _ h => h) (Or.inl ⟨by rfl, ?_⟩) (by assumption) ?_
            rotate_left 1
            · (intro w hSw; (try dsimp only at hSw); go_simp; try with_reducible rfl)
            try simp only [Act.put, List.setIfInBounds_toArray, List.set_cons_zero, List.set_cons_succ]
            refine wpAnyH_ready (rs := [3]) (by kernel_rfl) (by simp) ?_
            refine AllReadyH.cons (o := { dst := some 103, op := Go.Op.call { callee := Go.Callee.value (Go.Operand.func 19), args := #[Go.Operand.tmp 102], argTypes := #[45] }, type := 27, pos := "law.go:56", after := #[{ on := 2, ground := Go.Ground.data }], guard := none }) rfl (fun K hK => ?_) AllReadyH.nil
            go_simp
            go_at_call 19
            (refine (CZ.out _ (HBW.out.trans (HB8.out.mono HBW.out.size))).mono ?_); rintro x v5 ⟨A9, m9, c9, hm9, rfl, hr9, hb⟩
            clear hm9
            have k9 := str_reads (c := c9) hr9
            replace HB8 := Lib.hid (HB8.out.trans (hb.mono HB8.out.size))
            clear hb
            clear hHeld
            refine hK.out _ _ ?_ (fun hHeld => ?_)
            · ((try dsimp only); exact S8.out _ HB8.out)
            clear hK K
            refine wpAnyH_ready (rs := [4]) (by kernel_rfl) (by simp) ?_
            refine AllReadyH.cons (o := { dst := some 104, op := Go.Op.convert 27 9 (Go.Operand.tmp 103), type := 9, pos := "law.go:56", after := #[{ on := 3, ground := Go.Ground.data }], guard := none }) rfl (fun K hK => ?_) AllReadyH.nil
            go_simp
            clear hHeld
            refine hK.out _ _ ?_ (fun hHeld => ?_)
            · ((try dsimp only); exact S8.out _ HB8.out)
            clear hK K
            refine wpAnyH_take (i := 5) (oi := { dst := some 105, op := Go.Op.binOp Go.BinOp.eql 9 (Go.Operand.tmp 101) (Go.Operand.tmp 104) 9, type := 4, pos := "law.go:56", after := #[{ on := 1, ground := Go.Ground.data }, { on := 4, ground := Go.Ground.data }], guard := none }) (v := ?_) rfl (by kernel_rfl) (by kernel_rfl) (by kernel_rfl) (fun _ _ _ h => h) (Or.inl ⟨by rfl, ?_⟩) (by assumption) ?_
            rotate_left 1
            · (intro w hSw; (try dsimp only at hSw); go_simp; try with_reducible rfl)
            try simp only [Act.put, List.setIfInBounds_toArray, List.set_cons_zero, List.set_cons_succ]
            refine wpAnyH_take (i := 6) (oi := { dst := some 106, op := Go.Op.move (Go.Operand.tmp 105), type := 4, pos := "law.go:56", after := #[{ on := 5, ground := Go.Ground.data }, { on := 3, ground := Go.Ground.chain }], guard := none }) (v := ?_) rfl (by kernel_rfl) (by kernel_rfl) (by kernel_rfl) (fun _ _ _ h => h) (Or.inl ⟨by rfl, ?_⟩) (by assumption) ?_
            rotate_left 1
            · (intro w hSw; (try dsimp only at hSw); go_simp; try with_reducible rfl)
            try simp only [Act.put, List.setIfInBounds_toArray, List.set_cons_zero, List.set_cons_succ]
            refine wpAnyH_take (i := 7) (oi := { dst := some 107, op := Go.Op.move (Go.Operand.tmp 11), type := 32, pos := "law.go:56", after := #[{ on := 6, ground := Go.Ground.guard }], guard := some (6, true) }) (v := ?_) rfl (by kernel_rfl) (by kernel_rfl) (by kernel_rfl) (fun _ _ _ h => h) (Or.inl ⟨by rfl, ?_⟩) (by assumption) ?_
            rotate_left 1
            · (intro w hSw; (try dsimp only at hSw); go_simp; try with_reducible rfl)
            try simp only [Act.put, List.setIfInBounds_toArray, List.set_cons_zero, List.set_cons_succ]
            refine wpAnyH_take (i := 8) (oi := { dst := some 108, op := Go.Op.binOp Go.BinOp.eql 32 (Go.Operand.tmp 107) (Go.Operand.const (Go.Value.int Go.IntKind.i64 0)) 32, type := 4, pos := "law.go:56", after := #[{ on := 7, ground := Go.Ground.data }, { on := 6, ground := Go.Ground.guard }], guard := some (6, true) }) (v := ?_) rfl (by kernel_rfl) (by kernel_rfl) (by kernel_rfl) (fun _ _ _ h => h) (Or.inl ⟨by rfl, ?_⟩) (by assumption) ?_
            rotate_left 1
            · (intro w hSw; (try dsimp only at hSw); go_simp; try with_reducible rfl)
            try simp only [Act.put, List.setIfInBounds_toArray, List.set_cons_zero, List.set_cons_succ]
            refine wpAnyH_take (i := 9) (oi := { dst := some 109, op := Go.Op.pick (Go.Operand.tmp 106) (Go.Operand.tmp 108) (Go.Operand.const (Go.Value.bool false)), type := 4, pos := "law.go:56", after := #[{ on := 6, ground := Go.Ground.data }, { on := 8, ground := Go.Ground.data }], guard := none }) (v := ?_) rfl (by kernel_rfl) (by kernel_rfl) (by kernel_rfl) (fun _ _ _ h => h) (Or.inl ⟨by rfl, ?_⟩) (by assumption) ?_
            rotate_left 1
            · (intro w hSw; (try dsimp only at hSw); go_simp; try with_reducible rfl)
            try simp only [Act.put, List.setIfInBounds_toArray, List.set_cons_zero, List.set_cons_succ]
            refine wpAnyH_take (i := 10) (oi := { dst := some 110, op := Go.Op.move (Go.Operand.tmp 109), type := 4, pos := "law.go:56", after := #[{ on := 9, ground := Go.Ground.data }, { on := 6, ground := Go.Ground.chain }], guard := none }) (v := ?_) rfl (by kernel_rfl) (by kernel_rfl) (by kernel_rfl) (fun _ _ _ h => h) (Or.inl ⟨by rfl, ?_⟩) (by assumption) ?_
            rotate_left 1
            · (intro w hSw; (try dsimp only at hSw); go_simp; try with_reducible rfl)
            try simp only [Act.put, List.setIfInBounds_toArray, List.set_cons_zero, List.set_cons_succ]
            refine wpAnyH_take (i := 11) (oi := { dst := some 111, op := Go.Op.fieldAddr 47 (Go.Operand.tmp 10) 0, type := 0, pos := "law.go:56", after := #[{ on := 10, ground := Go.Ground.guard }], guard := some (10, true) }) (v := ?_) rfl (by kernel_rfl) (by kernel_rfl) (by kernel_rfl) (fun _ _ _ h => h) (Or.inl ⟨by rfl, ?_⟩) (by assumption) ?_
            rotate_left 1
            · (intro w hSw; (try dsimp only at hSw); go_simp; try with_reducible rfl)
            try simp only [Act.put, List.setIfInBounds_toArray, List.set_cons_zero, List.set_cons_succ]
            refine wpAnyH_take (i := 12) (oi := { dst := some 112, op := Go.Op.load 22 (Go.Operand.tmp 111), type := 22, pos := "law.go:56", after := #[{ on := 11, ground := Go.Ground.data }, { on := 10, ground := Go.Ground.guard }], guard := some (10, true) }) (v := ?_) rfl (by kernel_rfl) (by kernel_rfl) (by kernel_rfl) (fun _ _ _ h => h) (Or.inl ⟨by rfl, ?_⟩) (by assumption) ?_
            rotate_left 1
            · (intro w hSw; (try dsimp only at hSw); go_simp; try with_reducible rfl)
            try simp only [Act.put, List.setIfInBounds_toArray, List.set_cons_zero, List.set_cons_succ]
            refine wpAnyH_take (i := 13) (oi := { dst := some 113, op := Go.Op.fieldAddr 45 (Go.Operand.tmp 2) 0, type := 0, pos := "law.go:56", after := #[{ on := 10, ground := Go.Ground.guard }], guard := some (10, true) }) (v := ?_) rfl (by kernel_rfl) (by kernel_rfl) (by kernel_rfl) (fun _ _ _ h => h) (Or.inl ⟨by rfl, ?_⟩) (by assumption) ?_
            rotate_left 1
            · (intro w hSw; (try dsimp only at hSw); go_simp; try with_reducible rfl)
            try simp only [Act.put, List.setIfInBounds_toArray, List.set_cons_zero, List.set_cons_succ]
            refine wpAnyH_take (i := 14) (oi := { dst := some 114, op := Go.Op.load 22 (Go.Operand.tmp 113), type := 22, pos := "law.go:56", after := #[{ on := 13, ground := Go.Ground.data }, { on := 10, ground := Go.Ground.guard }], guard := some (10, true) }) (v := ?_) rfl (by kernel_rfl) (by kernel_rfl) (by kernel_rfl) (fun _ _ _ h => h) (Or.inl ⟨by rfl, ?_⟩) (by assumption) ?_
            rotate_left 1
            · (intro w hSw; (try dsimp only at hSw); go_simp; try with_reducible rfl)
            try simp only [Act.put, List.setIfInBounds_toArray, List.set_cons_zero, List.set_cons_succ]
            refine wpAnyH_take (i := 15) (oi := { dst := some 115, op := Go.Op.binOp Go.BinOp.eql 22 (Go.Operand.tmp 112) (Go.Operand.tmp 114) 22, type := 4, pos := "law.go:56", after := #[{ on := 12, ground := Go.Ground.data }, { on := 14, ground := Go.Ground.data }, { on := 10, ground := Go.Ground.guard }], guard := some (10, true) }) (v := ?_) rfl (by kernel_rfl) (by kernel_rfl) (by kernel_rfl) (fun _ _ _ h => h) (Or.inl ⟨by rfl, ?_⟩) (by assumption) ?_
            rotate_left 1
            · (intro w hSw; (try dsimp only at hSw); go_simp; try with_reducible rfl)
            try simp only [Act.put, List.setIfInBounds_toArray, List.set_cons_zero, List.set_cons_succ]
            refine wpAnyH_take (i := 16) (oi := { dst := some 116, op := Go.Op.pick (Go.Operand.tmp 110) (Go.Operand.tmp 115) (Go.Operand.const (Go.Value.bool false)), type := 4, pos := "law.go:56", after := #[{ on := 10, ground := Go.Ground.data }, { on := 15, ground := Go.Ground.data }], guard := none }) (v := ?_) rfl (by kernel_rfl) (by kernel_rfl) (by kernel_rfl) (fun _ _ _ h => h) (Or.inl ⟨by rfl, ?_⟩) (by assumption) ?_
            rotate_left 1
            · (intro w hSw; (try dsimp only at hSw); go_simp; try with_reducible rfl)
            try simp only [Act.put, List.setIfInBounds_toArray, List.set_cons_zero, List.set_cons_succ]
            refine wpAnyH_take (i := 17) (oi := { dst := some 117, op := Go.Op.move (Go.Operand.tmp 116), type := 4, pos := "law.go:56", after := #[{ on := 16, ground := Go.Ground.data }, { on := 10, ground := Go.Ground.chain }], guard := none }) (v := ?_) rfl (by kernel_rfl) (by kernel_rfl) (by kernel_rfl) (fun _ _ _ h => h) (Or.inl ⟨by rfl, ?_⟩) (by assumption) ?_
            rotate_left 1
            · (intro w hSw; (try dsimp only at hSw); go_simp; try with_reducible rfl)
            try simp only [Act.put, List.setIfInBounds_toArray, List.set_cons_zero, List.set_cons_succ]
            refine wpAnyH_take (i := 18) (oi := { dst := some 118, op := Go.Op.fieldAddr 47 (Go.Operand.tmp 10) 1, type := 0, pos := "law.go:56", after := #[{ on := 17, ground := Go.Ground.guard }], guard := some (17, true) }) (v := ?_) rfl (by kernel_rfl) (by kernel_rfl) (by kernel_rfl) (fun _ _ _ h => h) (Or.inl ⟨by rfl, ?_⟩) (by assumption) ?_
            rotate_left 1
            · (intro w hSw; (try dsimp only at hSw); go_simp; try with_reducible rfl)
            try simp only [Act.put, List.setIfInBounds_toArray, List.set_cons_zero, List.set_cons_succ]
            refine wpAnyH_take (i := 19) (oi := { dst := some 119, op := Go.Op.load 32 (Go.Operand.tmp 118), type := 32, pos := "law.go:56", after := #[{ on := 18, ground := Go.Ground.data }, { on := 17, ground := Go.Ground.guard }], guard := some (17, true) }) (v := ?_) rfl (by kernel_rfl) (by kernel_rfl) (by kernel_rfl) (fun _ _ _ h => h) (Or.inl ⟨by rfl, ?_⟩) (by assumption) ?_
            rotate_left 1
            · (intro w hSw; (try dsimp only at hSw); go_simp; try with_reducible rfl)
            try simp only [Act.put, List.setIfInBounds_toArray, List.set_cons_zero, List.set_cons_succ]
            refine wpAnyH_take (i := 20) (oi := { dst := some 120, op := Go.Op.fieldAddr 45 (Go.Operand.tmp 2) 1, type := 0, pos := "law.go:56", after := #[{ on := 17, ground := Go.Ground.guard }], guard := some (17, true) }) (v := ?_) rfl (by kernel_rfl) (by kernel_rfl) (by kernel_rfl) (fun _ _ _ h => h) (Or.inl ⟨by rfl, ?_⟩) (by assumption) ?_
            rotate_left 1
            · (intro w hSw; (try dsimp only at hSw); go_simp; try with_reducible rfl)
            try simp only [Act.put, List.setIfInBounds_toArray, List.set_cons_zero, List.set_cons_succ]
            refine wpAnyH_take (i := 21) (oi := { dst := some 121, op := Go.Op.load 3 (Go.Operand.tmp 120), type := 3, pos := "law.go:56", after := #[{ on := 20, ground := Go.Ground.data }, { on := 17, ground := Go.Ground.guard }], guard := some (17, true) }) (v := ?_) rfl (by kernel_rfl) (by kernel_rfl) (by kernel_rfl) (fun _ _ _ h => h) (Or.inl ⟨by rfl, ?_⟩) (by assumption) ?_
            rotate_left 1
            · (intro w hSw; (try dsimp only at hSw); go_simp; try with_reducible rfl)
            try simp only [Act.put, List.setIfInBounds_toArray, List.set_cons_zero, List.set_cons_succ]
            refine wpAnyH_take (i := 22) (oi := { dst := some 122, op := Go.Op.binOp Go.BinOp.eql 3 (Go.Operand.tmp 119) (Go.Operand.tmp 121) 3, type := 4, pos := "law.go:56", after := #[{ on := 19, ground := Go.Ground.data }, { on := 21, ground := Go.Ground.data }, { on := 17, ground := Go.Ground.guard }], guard := some (17, true) }) (v := ?_) rfl (by kernel_rfl) (by kernel_rfl) (by kernel_rfl) (fun _ _ _ h => h) (Or.inl ⟨by rfl, ?_⟩) (by assumption) ?_
            rotate_left 1
            · (intro w hSw; (try dsimp only at hSw); go_simp; try with_reducible rfl)
            try simp only [Act.put, List.setIfInBounds_toArray, List.set_cons_zero, List.set_cons_succ]
            refine wpAnyH_take (i := 23) (oi := { dst := some 123, op := Go.Op.pick (Go.Operand.tmp 117) (Go.Operand.tmp 122) (Go.Operand.const (Go.Value.bool false)), type := 4, pos := "law.go:56", after := #[{ on := 17, ground := Go.Ground.data }, { on := 22, ground := Go.Ground.data }], guard := none }) (v := ?_) rfl (by kernel_rfl) (by kernel_rfl) (by kernel_rfl) (fun _ _ _ h => h) (Or.inl ⟨by rfl, ?_⟩) (by assumption) ?_
            rotate_left 1
            · (intro w hSw; (try dsimp only at hSw); go_simp; try with_reducible rfl)
            try simp only [Act.put, List.setIfInBounds_toArray, List.set_cons_zero, List.set_cons_succ]
            refine wpAnyH_take (i := 24) (oi := { dst := some 124, op := Go.Op.move (Go.Operand.tmp 123), type := 4, pos := "law.go:56", after := #[{ on := 23, ground := Go.Ground.data }, { on := 17, ground := Go.Ground.chain }], guard := none }) (v := ?_) rfl (by kernel_rfl) (by kernel_rfl) (by kernel_rfl) (fun _ _ _ h => h) (Or.inl ⟨by rfl, ?_⟩) (by assumption) ?_
            rotate_left 1
            · (intro w hSw; (try dsimp only at hSw); go_simp; try with_reducible rfl)
            try simp only [Act.put, List.setIfInBounds_toArray, List.set_cons_zero, List.set_cons_succ]
            refine wpAnyH_take (i := 25) (oi := { dst := some 125, op := Go.Op.fieldAddr 47 (Go.Operand.tmp 10) 2, type := 0, pos := "law.go:56", after := #[{ on := 24, ground := Go.Ground.guard }], guard := some (24, true) }) (v := ?_) rfl (by kernel_rfl) (by kernel_rfl) (by kernel_rfl) (fun _ _ _ h => h) (Or.inl ⟨by rfl, ?_⟩) (by assumption) ?_
            rotate_left 1
            · (intro w hSw; (try dsimp only at hSw); go_simp; try with_reducible rfl)
            try simp only [Act.put, List.setIfInBounds_toArray, List.set_cons_zero, List.set_cons_succ]
            refine wpAnyH_take (i := 26) (oi := { dst := some 126, op := Go.Op.load 27 (Go.Operand.tmp 125), type := 27, pos := "law.go:56", after := #[{ on := 25, ground := Go.Ground.data }, { on := 24, ground := Go.Ground.guard }], guard := some (24, true) }) (v := ?_) rfl (by kernel_rfl) (by kernel_rfl) (by kernel_rfl) (fun _ _ _ h => h) (Or.inl ⟨by rfl, ?_⟩) (by assumption) ?_
            rotate_left 1
            · (intro w hSw; (try dsimp only at hSw); go_simp; try with_reducible rfl)
            try simp only [Act.put, List.setIfInBounds_toArray, List.set_cons_zero, List.set_cons_succ]
            refine wpAnyH_take (i := 27) (oi := { dst := some 127, op := Go.Op.convert 27 9 (Go.Operand.tmp 126), type := 9, pos := "law.go:56", after := #[{ on := 26, ground := Go.Ground.data }, { on := 24, ground := Go.Ground.guard }], guard := some (24, true) }) (v := ?_) rfl (by kernel_rfl) (by kernel_rfl) (by kernel_rfl) (fun _ _ _ h => h) (Or.inl ⟨by rfl, ?_⟩) (by assumption) ?_
            rotate_left 1
            · (intro w hSw; (try dsimp only at hSw); go_simp; try with_reducible rfl)
            try simp only [Act.put, List.setIfInBounds_toArray, List.set_cons_zero, List.set_cons_succ]
            refine wpAnyH_take (i := 28) (oi := { dst := some 128, op := Go.Op.fieldAddr 45 (Go.Operand.tmp 2) 2, type := 0, pos := "law.go:56", after := #[{ on := 24, ground := Go.Ground.guard }], guard := some (24, true) }) (v := ?_) rfl (by kernel_rfl) (by kernel_rfl) (by kernel_rfl) (fun _ _ _ h => h) (Or.inl ⟨by rfl, ?_⟩) (by assumption) ?_
            rotate_left 1
            · (intro w hSw; (try dsimp only at hSw); go_simp; try with_reducible rfl)
            try simp only [Act.put, List.setIfInBounds_toArray, List.set_cons_zero, List.set_cons_succ]
            refine wpAnyH_take (i := 29) (oi := { dst := some 129, op := Go.Op.load 27 (Go.Operand.tmp 128), type := 27, pos := "law.go:56", after := #[{ on := 28, ground := Go.Ground.data }, { on := 24, ground := Go.Ground.guard }], guard := some (24, true) }) (v := ?_) rfl (by kernel_rfl) (by kernel_rfl) (by kernel_rfl) (fun _ _ _ h => h) (Or.inl ⟨by rfl, ?_⟩) (by assumption) ?_
            rotate_left 1
            · (intro w hSw; (try dsimp only at hSw); go_simp; try with_reducible rfl)
            try simp only [Act.put, List.setIfInBounds_toArray, List.set_cons_zero, List.set_cons_succ]
            refine wpAnyH_take (i := 30) (oi := { dst := some 130, op := Go.Op.convert 27 9 (Go.Operand.tmp 129), type := 9, pos := "law.go:56", after := #[{ on := 29, ground := Go.Ground.data }, { on := 24, ground := Go.Ground.guard }], guard := some (24, true) }) (v := ?_) rfl (by kernel_rfl) (by kernel_rfl) (by kernel_rfl) (fun _ _ _ h => h) (Or.inl ⟨by rfl, ?_⟩) (by assumption) ?_
            rotate_left 1
            · (intro w hSw; (try dsimp only at hSw); go_simp; try with_reducible rfl)
            try simp only [Act.put, List.setIfInBounds_toArray, List.set_cons_zero, List.set_cons_succ]
            refine wpAnyH_take (i := 31) (oi := { dst := some 131, op := Go.Op.binOp Go.BinOp.eql 9 (Go.Operand.tmp 127) (Go.Operand.tmp 130) 9, type := 4, pos := "law.go:56", after := #[{ on := 27, ground := Go.Ground.data }, { on := 30, ground := Go.Ground.data }, { on := 24, ground := Go.Ground.guard }], guard := some (24, true) }) (v := ?_) rfl (by kernel_rfl) (by kernel_rfl) (by kernel_rfl) (fun _ _ _ h => h) (Or.inl ⟨by rfl, ?_⟩) (by assumption) ?_
            rotate_left 1
            · (intro w hSw; (try dsimp only at hSw); go_simp; try with_reducible rfl)
            try simp only [Act.put, List.setIfInBounds_toArray, List.set_cons_zero, List.set_cons_succ]
            refine wpAnyH_take (i := 32) (oi := { dst := some 132, op := Go.Op.pick (Go.Operand.tmp 124) (Go.Operand.tmp 131) (Go.Operand.const (Go.Value.bool false)), type := 4, pos := "law.go:56", after := #[{ on := 24, ground := Go.Ground.data }, { on := 31, ground := Go.Ground.data }], guard := none }) (v := ?_) rfl (by kernel_rfl) (by kernel_rfl) (by kernel_rfl) (fun _ _ _ h => h) (Or.inl ⟨by rfl, ?_⟩) (by assumption) ?_
            rotate_left 1
            · (intro w hSw; (try dsimp only at hSw); go_simp; try with_reducible rfl)
            try simp only [Act.put, List.setIfInBounds_toArray, List.set_cons_zero, List.set_cons_succ]
            refine wpAnyH_take (i := 33) (oi := { dst := some 133, op := Go.Op.move (Go.Operand.tmp 132), type := 4, pos := "law.go:56", after := #[{ on := 32, ground := Go.Ground.data }, { on := 24, ground := Go.Ground.chain }], guard := none }) (v := ?_) rfl (by kernel_rfl) (by kernel_rfl) (by kernel_rfl) (fun _ _ _ h => h) (Or.inl ⟨by rfl, ?_⟩) (by assumption) ?_
            rotate_left 1
            · (intro w hSw; (try dsimp only at hSw); go_simp; try with_reducible rfl)
            try simp only [Act.put, List.setIfInBounds_toArray, List.set_cons_zero, List.set_cons_succ]
            refine wpAnyH_ready (rs := [34]) (by kernel_rfl) (by simp) ?_
            refine AllReadyH.cons (o := { dst := some 134, op := Go.Op.call { callee := Go.Callee.value (Go.Operand.func 5), args := #[], argTypes := #[] }, type := 4, pos := "law.go:56", after := #[{ on := 33, ground := Go.Ground.chain }, { on := 33, ground := Go.Ground.guard }], guard := some (33, true) }) rfl (fun K hK => ?_) AllReadyH.nil
            go_simp
            go_at_call 5
            (refine (awake_calls _).mono ?_); rintro x v7 ⟨rfl, hb⟩
            replace HB8 := Lib.hid (HB8.out.trans (hb.mono HB8.out.size))
            clear hb
            clear hHeld
            refine hK.out _ _ ?_ (fun hHeld => ?_)
            · ((try dsimp only); exact S8.out _ HB8.out)
            clear hK K
            refine wpAnyH_take (i := 35) (oi := { dst := some 135, op := Go.Op.pick (Go.Operand.tmp 133) (Go.Operand.tmp 134) (Go.Operand.const (Go.Value.bool false)), type := 4, pos := "law.go:56", after := #[{ on := 33, ground := Go.Ground.data }, { on := 34, ground := Go.Ground.data }], guard := none }) (v := ?_) rfl (by kernel_rfl) (by kernel_rfl) (by kernel_rfl) (fun _ _ _ h => h) (Or.inl ⟨by rfl, ?_⟩) (by assumption) ?_
            rotate_left 1
            · (intro w hSw; (try dsimp only at hSw); go_simp; try with_reducible rfl)
            try simp only [Act.put, List.setIfInBounds_toArray, List.set_cons_zero, List.set_cons_succ]
            refine wpAnyH_take (i := 36) (oi := { dst := some 4, op := Go.Op.assign (Go.Operand.tmp 135), type := 4, pos := "law.go:56", after := #[{ on := 35, ground := Go.Ground.data }, { on := 34, ground := Go.Ground.chain }, { on := 0, ground := Go.Ground.phase }, { on := 1, ground := Go.Ground.phase }, { on := 2, ground := Go.Ground.phase }, { on := 3, ground := Go.Ground.phase }, { on := 4, ground := Go.Ground.phase }, { on := 5, ground := Go.Ground.phase }, { on := 6, ground := Go.Ground.phase }, { on := 7, ground := Go.Ground.phase }, { on := 8, ground := Go.Ground.phase }, { on := 9, ground := Go.Ground.phase }, { on := 10, ground := Go.Ground.phase }, { on := 11, ground := Go.Ground.phase }, { on := 12, ground := Go.Ground.phase }, { on := 13, ground := Go.Ground.phase }, { on := 14, ground := Go.Ground.phase }, { on := 15, ground := Go.Ground.phase }, { on := 16, ground := Go.Ground.phase }, { on := 17, ground := Go.Ground.phase }, { on := 18, ground := Go.Ground.phase }, { on := 19, ground := Go.Ground.phase }, { on := 20, ground := Go.Ground.phase }, { on := 21, ground := Go.Ground.phase }, { on := 22, ground := Go.Ground.phase }, { on := 23, ground := Go.Ground.phase }, { on := 24, ground := Go.Ground.phase }, { on := 25, ground := Go.Ground.phase }, { on := 26, ground := Go.Ground.phase }, { on := 27, ground := Go.Ground.phase }, { on := 28, ground := Go.Ground.phase }, { on := 29, ground := Go.Ground.phase }, { on := 30, ground := Go.Ground.phase }, { on := 31, ground := Go.Ground.phase }, { on := 32, ground := Go.Ground.phase }, { on := 33, ground := Go.Ground.phase }, { on := 34, ground := Go.Ground.phase }, { on := 35, ground := Go.Ground.phase }], guard := none }) (v := ?_) rfl (by kernel_rfl) (by kernel_rfl) (by kernel_rfl) (fun _ _ _ h => h) (Or.inl ⟨by rfl, ?_⟩) (by assumption) ?_
            rotate_left 1
            · (intro w hSw; (try dsimp only at hSw); go_simp; try with_reducible rfl)
            try simp only [Act.put, List.setIfInBounds_toArray, List.set_cons_zero, List.set_cons_succ]
            refine wpAnyH_done (by kernel_rfl) ?_ _
            refine NoPanic.normal ?_
            go_wp2
            go_ret
            exact ⟨rfl, HBW.out.trans (HB8.out.mono HBW.out.size)⟩
          · have b4 : decide ((m0 : Int) > 0) = false := by simp [hz]
            have b6 : ¬ (0 : Int) < (m0 : Int) := by omega
            have HZ0 := Lib.hid hz
            clear hz
            by_cases he0 : e = 0
            · have b3 : ((e : Int) != 0) = false := by simp [he0]
              clear he0
              go_upto_region 10 with (go_at_call 18; (with_reducible refine (CY.out _ HB5.out).mono ?_); rintro x v2 ⟨A6, m6, c6, hm6, rfl, ho6, hb⟩; have HM6 := Lib.hid hm6; have HO6 := Lib.hid ho6; have HB12 := Lib.hid hb; clear hb hm6 ho6)
              have CP := Lib.hid (CBB.out.2.2.2.1 A6 c6 v2 v2 (Below.refl _ _) (Kd.C_of_reads (d := (0 : Int)) (by rw [← HM6.out]; exact own_reads' HO6.out)) (by rw [← HM6.out]; exact own_le HO6.out))
              rw [← HM6.out] at CP
              go_upto_region 11 with (go_at_call 16; (with_reducible refine CP.out.mono ?_); rintro x v4 ⟨A8, m8, c8, hm8, hc8, rfl, hr8, hb⟩; have HM8 := Lib.hid hm8; have HC8 := Lib.hid hc8; have HR8 := Lib.hid hr8; have HB14 := Lib.hid (HB12.out.trans (hb.mono HB12.out.size)); have HO8 := Lib.hid (pw_own_below HO6.out hb); clear hb hm8 hc8 hr8)
              obtain ⟨W8, hW8⟩ : ∃ W8, W8 = v4.alloc (.cells #[.int .u64 n, .int .i64 e, .slice A8 m8 c8] 47) := ⟨_, rfl⟩
              obtain ⟨V0, hV0⟩ : ∃ V0, V0 = v4.heap.size := ⟨_, rfl⟩
              have hb3 : Below v4.heap.size v4 W8 := by rw [hW8]; exact (Below.refl _ _).alloc (Nat.le_refl _) _
              have HV8 := Lib.hid (show Blk W8 V0 47 #[.int .u64 n, .int .i64 e, .slice A8 m8 c8] by rw [hW8, hV0]; exact Blk.new _ _ _)
              have HB15 := Lib.hid (HB14.out.trans (hb3.mono HB14.out.size))
              have HQ8 := Lib.hid (Blk.below HQ5.out HB15.out (Blk.lt HQ5.out))
              have HR9 := Lib.hid (Kd.C_below HR8.out hb3)
              have HO9 := Lib.hid (pw_own_below HO8.out hb3)
              rw [← hW8, ← hV0]
              clear hW8 hV0 hb3
              have HBW := Lib.hid (show Below w.heap.size w W8 from HB5.out.trans (HB15.out.mono HB5.out.size))
              have S8 := Lib.hid (fun W (hB : Below W8.heap.size W8 W) => show ((W.cell? ⟨Q0, 0, none⟩ = some (.int .u64 n) ∧ W.cell? ⟨Q0, 1, none⟩ = some (.int .i64 e) ∧ W.cell? ⟨Q0, 2, none⟩ = some (.slice A0 m0 c0)) ∧ (W.cell? ⟨V0, 0, none⟩ = some (.int .u64 n) ∧ W.cell? ⟨V0, 1, none⟩ = some (.int .i64 e) ∧ W.cell? ⟨V0, 2, none⟩ = some (.slice A8 m8 c8)) ∧ (convert 27 9 (.slice A6 m6 c6)).run Try.prog W = .ok (.string (strOfNums (leB n 8 ++ (leB e 1 ++ data)))) W ∧ (convert 27 9 (.slice A8 m8 c8)).run Try.prog W = .ok (.string (strOfNums data)) W ∧ (convert 27 9 (.slice A0 m0 c0)).run Try.prog W = .ok (.string (strOfNums data)) W) from ⟨(blk3 (Blk.below HQ8.out hB (Blk.lt HQ8.out))).1, (blk3 (Blk.below HV8.out hB (Blk.lt HV8.out))).1, str_reads (own_reads' (pw_own_below HO9.out hB)), str_reads (Kd.reads_of_C (d := (0 : Int)) (Kd.C_below HR9.out hB)), str_reads (Kd.reads_of_C (d := (0 : Int)) (Kd.C_below HR0.out (HBW.out.trans (hB.mono HBW.out.size))))⟩)
              have HB8 := Lib.hid (show Below W8.heap.size W8 W8.drew from (Below.refl _ _).drew)
              refine wp_region_noPanic ?_
              refine wp_region_held_drew (S := (fun W => ((W.cell? ⟨Q0, 0, none⟩ = some (.int .u64 n) ∧ W.cell? ⟨Q0, 1, none⟩ = some (.int .i64 e) ∧ W.cell? ⟨Q0, 2, none⟩ = some (.slice A0 m0 c0)) ∧ (W.cell? ⟨V0, 0, none⟩ = some (.int .u64 n) ∧ W.cell? ⟨V0, 1, none⟩ = some (.int .i64 e) ∧ W.cell? ⟨V0, 2, none⟩ = some (.slice A8 m8 c8)) ∧ (convert 27 9 (.slice A6 m6 c6)).run Try.prog W = .ok (.string (strOfNums (leB n 8 ++ (leB e 1 ++ data)))) W ∧ (convert 27 9 (.slice A8 m8 c8)).run Try.prog W = .ok (.string (strOfNums data)) W ∧ (convert 27 9 (.slice A0 m0 c0)).run Try.prog W = .ok (.string (strOfNums data)) W))) (by kernel_rfl) ?_ (fun hHeld => ?_)
              · ((try dsimp only); exact S8.out _ HB8.out)
              refine wpAnyH_take (i := 0) (oi := { dst := some 100, op := Go.Op.move (Go.Operand.tmp 9), type := 27, pos := "law.go:56", after := #[], guard := none }) (v := ?_) rfl (by kernel_rfl) (by kernel_rfl) (by kernel_rfl) (fun _ _ _ h => h) (Or.inl ⟨by rfl, ?_⟩) (by assumption) ?_
              rotate_left 1
              · (intro w hSw; (try dsimp only at hSw); go_simp; try with_reducible rfl)
              try simp only [Act.put, List.setIfInBounds_toArray, List.set_cons_zero, List.set_cons_succ]
              refine wpAnyH_take (i := 1) (oi := { dst := some 101, op := Go.Op.convert 27 9 (Go.Operand.tmp 100), type := 9, pos := "law.go:56", after := #[{ on := 0, ground := Go.Ground.data }], guard := none }) (v := ?_) rfl (by kernel_rfl) (by kernel_rfl) (by kernel_rfl) (fun _ _ _ h => h) (Or.inl ⟨by rfl, ?_⟩) (by assumption) ?_
              rotate_left 1
              · (intro w hSw; (try dsimp only at hSw); go_simp; try with_reducible rfl)
              try simp only [Act.put, List.setIfInBounds_toArray, List.set_cons_zero, List.set_cons_succ]
              refine wpAnyH_take (i := 2) (oi := { dst := some 102, op := Go.Op.load 45 (Go.Operand.tmp 2), type := 45, pos := "law.go:56", after := #[], guard := none }) (v := ?_) rfl (by kernel_rfl) (by kernel_rfl) (by kernel_rfl) (fun _ _ _ h => h) (Or.inl ⟨by rfl, ?_⟩) (by assumption) ?_
              rotate_left 1
              · (intro w hSw; (try dsimp only at hSw); go_simp; try with_reducible rfl)
              try simp only [Act.put, List.setIfInBounds_toArray, List.set_cons_zero, List.set_cons_succ]
              refine wpAnyH_ready (rs := [3]) (by kernel_rfl) (by simp) ?_
              refine AllReadyH.cons (o := { dst := some 103, op := Go.Op.call { callee := Go.Callee.value (Go.Operand.func 19), args := #[Go.Operand.tmp 102], argTypes := #[45] }, type := 27, pos := "law.go:56", after := #[{ on := 2, ground := Go.Ground.data }], guard := none }) rfl (fun K hK => ?_) AllReadyH.nil
              go_simp
              go_at_call 19
              (refine (CZ.out _ (HBW.out.trans (HB8.out.mono HBW.out.size))).mono ?_); rintro x v5 ⟨A9, m9, c9, hm9, rfl, hr9, hb⟩
              clear hm9
              have k9 := str_reads (c := c9) hr9
              replace HB8 := Lib.hid (HB8.out.trans (hb.mono HB8.out.size))
              clear hb
              clear hHeld
              refine hK.out _ _ ?_ (fun hHeld => ?_)
              · ((try dsimp only); exact S8.out _ HB8.out)
              clear hK K
              refine wpAnyH_ready (rs := [4]) (by kernel_rfl) (by simp) ?_
              refine AllReadyH.cons (o := { dst := some 104, op := Go.Op.convert 27 9 (Go.Operand.tmp 103), type := 9, pos := "law.go:56", after := #[{ on := 3, ground := Go.Ground.data }], guard := none }) rfl (fun K hK => ?_) AllReadyH.nil
              go_simp
              clear hHeld
              refine hK.out _ _ ?_ (fun hHeld => ?_)
              · ((try dsimp only); exact S8.out _ HB8.out)
              clear hK K
              refine wpAnyH_take (i := 5) (oi := { dst := some 105, op := Go.Op.binOp Go.BinOp.eql 9 (Go.Operand.tmp 101) (Go.Operand.tmp 104) 9, type := 4, pos := "law.go:56", after := #[{ on := 1, ground := Go.Ground.data }, { on := 4, ground := Go.Ground.data }], guard := none }) (v := ?_) rfl (by kernel_rfl) (by kernel_rfl) (by kernel_rfl) (fun _ _ _ h => h) (Or.inl ⟨by rfl, ?_⟩) (by assumption) ?_
              rotate_left 1
              · (intro w hSw; (try dsimp only at hSw); go_simp; try with_reducible rfl)
              try simp only [Act.put, List.setIfInBounds_toArray, List.set_cons_zero, List.set_cons_succ]
              refine wpAnyH_take (i := 6) (oi := { dst := some 106, op := Go.Op.move (Go.Operand.tmp 105), type := 4, pos := "law.go:56", after := #[{ on := 5, ground := Go.Ground.data }, { on := 3, ground := Go.Ground.chain }], guard := none }) (v := ?_) rfl (by kernel_rfl) (by kernel_rfl) (by kernel_rfl) (fun _ _ _ h => h) (Or.inl ⟨by rfl, ?_⟩) (by assumption) ?_
              rotate_left 1
              · (intro w hSw; (try dsimp only at hSw); go_simp; try with_reducible rfl)
              try simp only [Act.put, List.setIfInBounds_toArray, List.set_cons_zero, List.set_cons_succ]
              refine wpAnyH_take (i := 7) (oi := { dst := some 107, op := Go.Op.move (Go.Operand.tmp 11), type := 32, pos := "law.go:56", after := #[{ on := 6, ground := Go.Ground.guard }], guard := some (6, true) }) (v := ?_) rfl (by kernel_rfl) (by kernel_rfl) (by kernel_rfl) (fun _ _ _ h => h) (Or.inl ⟨by rfl, ?_⟩) (by assumption) ?_
              rotate_left 1
              · (intro w hSw; (try dsimp only at hSw); go_simp; try with_reducible rfl)
              try simp only [Act.put, List.setIfInBounds_toArray, List.set_cons_zero, List.set_cons_succ]
              refine wpAnyH_take (i := 8) (oi := { dst := some 108, op := Go.Op.binOp Go.BinOp.eql 32 (Go.Operand.tmp 107) (Go.Operand.const (Go.Value.int Go.IntKind.i64 0)) 32, type := 4, pos := "law.go:56", after := #[{ on := 7, ground := Go.Ground.data }, { on := 6, ground := Go.Ground.guard }], guard := some (6, true) }) (v := ?_) rfl (by kernel_rfl) (by kernel_rfl) (by kernel_rfl) (fun _ _ _ h => h) (Or.inl ⟨by rfl, ?_⟩) (by assumption) ?_
              rotate_left 1
              · (intro w hSw; (try dsimp only at hSw); go_simp; try with_reducible rfl)
              try simp only [Act.put, List.setIfInBounds_toArray, List.set_cons_zero, List.set_cons_succ]
              refine wpAnyH_take (i := 9) (oi := { dst := some 109, op := Go.Op.pick (Go.Operand.tmp 106) (Go.Operand.tmp 108) (Go.Operand.const (Go.Value.bool false)), type := 4, pos := "law.go:56", after := #[{ on := 6, ground := Go.Ground.data }, { on := 8, ground := Go.Ground.data }], guard := none }) (v := ?_) rfl (by kernel_rfl) (by kernel_rfl) (by kernel_rfl) (fun _ _ _ h => h) (Or.inl ⟨by rfl, ?_⟩) (by assumption) ?_
              rotate_left 1
              · (intro w hSw; (try dsimp only at hSw); go_simp; try with_reducible rfl)
              try simp only [Act.put, List.setIfInBounds_toArray, List.set_cons_zero, List.set_cons_succ]
              refine wpAnyH_take (i := 10) (oi := { dst := some 110, op := Go.Op.move (Go.Operand.tmp 109), type := 4, pos := "law.go:56", after := #[{ on := 9, ground := Go.Ground.data }, { on := 6, ground := Go.Ground.chain }], guard := none }) (v := ?_) rfl (by kernel_rfl) (by kernel_rfl) (by kernel_rfl) (fun _ _ _ h => h) (Or.inl ⟨by rfl, ?_⟩) (by assumption) ?_
              rotate_left 1
              · (intro w hSw; (try dsimp only at hSw); go_simp; try with_reducible rfl)
              try simp only [Act.put, List.setIfInBounds_toArray, List.set_cons_zero, List.set_cons_succ]
              refine wpAnyH_take (i := 11) (oi := { dst := some 111, op := Go.Op.fieldAddr 47 (Go.Operand.tmp 10) 0, type := 0, pos := "law.go:56", after := #[{ on := 10, ground := Go.Ground.guard }], guard := some (10, true) }) (v := ?_) rfl (by kernel_rfl) (by kernel_rfl) (by kernel_rfl) (fun _ _ _ h => h) (Or.inl ⟨by rfl, ?_⟩) (by assumption) ?_
              rotate_left 1
              · (intro w hSw; (try dsimp only at hSw); go_simp; try with_reducible rfl)
              try simp only [Act.put, List.setIfInBounds_toArray, List.set_cons_zero, List.set_cons_succ]
              refine wpAnyH_take (i := 12) (oi := { dst := some 112, op := Go.Op.load 22 (Go.Operand.tmp 111), type := 22, pos := "law.go:56", after := #[{ on := 11, ground := Go.Ground.data }, { on := 10, ground := Go.Ground.guard }], guard := some (10, true) }) (v := ?_) rfl (by kernel_rfl) (by kernel_rfl) (by kernel_rfl) (fun _ _ _ h => h) (Or.inl ⟨by rfl, ?_⟩) (by assumption) ?_
              rotate_left 1
              · (intro w hSw; (try dsimp only at hSw); go_simp; try with_reducible rfl)
              try simp only [Act.put, List.setIfInBounds_toArray, List.set_cons_zero, List.set_cons_succ]
              refine wpAnyH_take (i := 13) (oi := { dst := some 113, op := Go.Op.fieldAddr 45 (Go.Operand.tmp 2) 0, type := 0, pos := "law.go:56", after := #[{ on := 10, ground := Go.Ground.guard }], guard := some (10, true) }) (v := ?_) rfl (by kernel_rfl) (by kernel_rfl) (by kernel_rfl) (fun _ _ _ h => h) (Or.inl ⟨by rfl, ?_⟩) (by assumption) ?_
              rotate_left 1
              · (intro w hSw; (try dsimp only at hSw); go_simp; try with_reducible rfl)
              try simp only [Act.put, List.setIfInBounds_toArray, List.set_cons_zero, List.set_cons_succ]
              refine wpAnyH_take (i := 14) (oi := { dst := some 114, op := Go.Op.load 22 (Go.Operand.tmp 113), type := 22, pos := "law.go:56", after := #[{ on := 13, ground := Go.Ground.data }, { on := 10, ground := Go.Ground.guard }], guard := some (10, true) }) (v := ?_) rfl (by kernel_rfl) (by kernel_rfl) (by kernel_rfl) (fun _ _ _ h => h) (Or.inl ⟨by rfl, ?_⟩) (by assumption) ?_
              rotate_left 1
              · (intro w hSw; (try dsimp only at hSw); go_simp; try with_reducible rfl)
              try simp only [Act.put, List.setIfInBounds_toArray, List.set_cons_zero, List.set_cons_succ]
              refine wpAnyH_take (i := 15) (oi := { dst := some 115, op := Go.Op.binOp Go.BinOp.eql 22 (Go.Operand.tmp 112) (Go.Operand.tmp 114) 22, type := 4, pos := "law.go:56", after := #[{ on := 12, ground := Go.Ground.data }, { on := 14, ground := Go.Ground.data }, { on := 10, ground := Go.Ground.guard }], guard := some (10, true) }) (v := ?_) rfl (by kernel_rfl) (by kernel_rfl) (by kernel_rfl) (fun _ _ _ h => h) (Or.inl ⟨by rfl, ?_⟩) (by assumption) ?_
              rotate_left 1
              · (intro w hSw; (try dsimp only at hSw); go_simp; try with_reducible rfl)
              try simp only [Act.put, List.setIfInBounds_toArray, List.set_cons_zero, List.set_cons_succ]
              refine wpAnyH_take (i := 16) (oi := { dst := some 116, op := Go.Op.pick (Go.Operand.tmp 110) (Go.Operand.tmp 115) (Go.Operand.const (Go.Value.bool false)), type := 4, pos := "law.go:56", after := #[{ on := 10, ground := Go.Ground.data }, { on := 15, ground := Go.Ground.data }], guard := none }) (v := ?_) rfl (by kernel_rfl) (by kernel_rfl) (by kernel_rfl) (fun _ _ _ h => h) (Or.inl ⟨by rfl, ?_⟩) (by assumption) ?_
              rotate_left 1
              · (intro w hSw; (try dsimp only at hSw); go_simp; try with_reducible rfl)
              try simp only [Act.put, List.setIfInBounds_toArray, List.set_cons_zero, List.set_cons_succ]
              refine wpAnyH_take (i := 17) (oi := { dst := some 117, op := Go.Op.move (Go.Operand.tmp 116), type := 4, pos := "law.go:56", after := #[{ on := 16, ground := Go.Ground.data }, { on := 10, ground := Go.Ground.chain }], guard := none }) (v := ?_) rfl (by kernel_rfl) (by kernel_rfl) (by kernel_rfl) (fun _ _ _ h => h) (Or.inl ⟨by rfl, ?_⟩) (by assumption) ?_
              rotate_left 1
              · (intro w hSw; (try dsimp only at hSw); go_simp; try with_reducible rfl)
              try simp only [Act.put, List.setIfInBounds_toArray, List.set_cons_zero, List.set_cons_succ]
              refine wpAnyH_take (i := 18) (oi := { dst := some 118, op := Go.Op.fieldAddr 47 (Go.Operand.tmp 10) 1, type := 0, pos := "law.go:56", after := #[{ on := 17, ground := Go.Ground.guard }], guard := some (17, true) }) (v := ?_) rfl (by kernel_rfl) (by kernel_rfl) (by kernel_rfl) (fun _ _ _ h => h) (Or.inl ⟨by rfl, ?_⟩) (by assumption) ?_
              rotate_left 1
              · (intro w hSw; (try dsimp only at hSw); go_simp; try with_reducible rfl)
              try simp only [Act.put, List.setIfInBounds_toArray, List.set_cons_zero, List.set_cons_succ]
              refine wpAnyH_take (i := 19) (oi := { dst := some 119, op := Go.Op.load 32 (Go.Operand.tmp 118), type := 32, pos := "law.go:56", after := #[{ on := 18, ground := Go.Ground.data }, { on := 17, ground := Go.Ground.guard }], guard := some (17, true) }) (v := ?_) rfl (by kernel_rfl) (by kernel_rfl) (by kernel_rfl) (fun _ _ _ h => h) (Or.inl ⟨by rfl, ?_⟩) (by assumption) ?_
              rotate_left 1
              · (intro w hSw; (try dsimp only at hSw); go_simp; try with_reducible rfl)
              try simp only [Act.put, List.setIfInBounds_toArray, List.set_cons_zero, List.set_cons_succ]
              refine wpAnyH_take (i := 20) (oi := { dst := some 120, op := Go.Op.fieldAddr 45 (Go.Operand.tmp 2) 1, type := 0, pos := "law.go:56", after := #[{ on := 17, ground := Go.Ground.guard }], guard := some (17, true) }) (v := ?_) rfl (by kernel_rfl) (by kernel_rfl) (by kernel_rfl) (fun _ _ _ h => h) (Or.inl ⟨by rfl, ?_⟩) (by assumption) ?_
              rotate_left 1
              · (intro w hSw; (try dsimp only at hSw); go_simp; try with_reducible rfl)
              try simp only [Act.put, List.setIfInBounds_toArray, List.set_cons_zero, List.set_cons_succ]
              refine wpAnyH_take (i := 21) (oi := { dst := some 121, op := Go.Op.load 3 (Go.Operand.tmp 120), type := 3, pos := "law.go:56", after := #[{ on := 20, ground := Go.Ground.data }, { on := 17, ground := Go.Ground.guard }], guard := some (17, true) }) (v := ?_) rfl (by kernel_rfl) (by kernel_rfl) (by kernel_rfl) (fun _ _ _ h => h) (Or.inl ⟨by rfl, ?_⟩) (by assumption) ?_
              rotate_left 1
              · (intro w hSw; (try dsimp only at hSw); go_simp; try with_reducible rfl)
              try simp only [Act.put, List.setIfInBounds_toArray, List.set_cons_zero, List.set_cons_succ]
              refine wpAnyH_take (i := 22) (oi := { dst := some 122, op := Go.Op.binOp Go.BinOp.eql 3 (Go.Operand.tmp 119) (Go.Operand.tmp 121) 3, type := 4, pos := "law.go:56", after := #[{ on := 19, ground := Go.Ground.data }, { on := 21, ground := Go.Ground.data }, { on := 17, ground := Go.Ground.guard }], guard := some (17, true) }) (v := ?_) rfl (by kernel_rfl) (by kernel_rfl) (by kernel_rfl) (fun _ _ _ h => h) (Or.inl ⟨by rfl, ?_⟩) (by assumption) ?_
              rotate_left 1
              · (intro w hSw; (try dsimp only at hSw); go_simp; try with_reducible rfl)
              try simp only [Act.put, List.setIfInBounds_toArray, List.set_cons_zero, List.set_cons_succ]
              refine wpAnyH_take (i := 23) (oi := { dst := some 123, op := Go.Op.pick (Go.Operand.tmp 117) (Go.Operand.tmp 122) (Go.Operand.const (Go.Value.bool false)), type := 4, pos := "law.go:56", after := #[{ on := 17, ground := Go.Ground.data }, { on := 22, ground := Go.Ground.data }], guard := none }) (v := ?_) rfl (by kernel_rfl) (by kernel_rfl) (by kernel_rfl) (fun _ _ _ h => h) (Or.inl ⟨by rfl, ?_⟩) (by assumption) ?_
              rotate_left 1
              · (intro w hSw; (try dsimp only at hSw); go_simp; try with_reducible rfl)
              try simp only [Act.put, List.setIfInBounds_toArray, List.set_cons_zero, List.set_cons_succ]
              refine wpAnyH_take (i := 24) (oi := { dst := some 124, op := Go.Op.move (Go.Operand.tmp 123), type := 4, pos := "law.go:56", after := #[{ on := 23, ground := Go.Ground.data }, { on := 17, ground := Go.Ground.chain }], guard := none }) (v := ?_) rfl (by kernel_rfl) (by kernel_rfl) (by kernel_rfl) (fun _ _ _ h => h) (Or.inl ⟨by rfl, ?_⟩) (by assumption) ?_
              rotate_left 1
              · (intro w hSw; (try dsimp only at hSw); go_simp; try with_reducible rfl)
              try simp only [Act.put, List.setIfInBounds_toArray, List.set_cons_zero, List.set_cons_succ]
              refine wpAnyH_take (i := 25) (oi := { dst := some 125, op := Go.Op.fieldAddr 47 (Go.Operand.tmp 10) 2, type := 0, pos := "law.go:56", after := #[{ on := 24, ground := Go.Ground.guard }], guard := some (24, true) }) (v := ?_) rfl (by kernel_rfl) (by kernel_rfl) (by kernel_rfl) (fun _ _ _ h => h) (Or.inl ⟨by rfl, ?_⟩) (by assumption) ?_
              rotate_left 1
              · (intro w hSw; (try dsimp only at hSw); go_simp; try with_reducible rfl)
              try simp only [Act.put, List.setIfInBounds_toArray, List.set_cons_zero, List.set_cons_succ]
              refine wpAnyH_take (i := 26) (oi := { dst := some 126, op := Go.Op.load 27 (Go.Operand.tmp 125), type := 27, pos := "law.go:56", after := #[{ on := 25, ground := Go.Ground.data }, { on := 24, ground := Go.Ground.guard }], guard := some (24, true) }) (v := ?_) rfl (by kernel_rfl) (by kernel_rfl) (by kernel_rfl) (fun _ _ _ h => h) (Or.inl ⟨by rfl, ?_⟩) (by assumption) ?_
              rotate_left 1
              · (intro w hSw; (try dsimp only at hSw); go_simp; try with_reducible rfl)
              try simp only [Act.put, List.setIfInBounds_toArray, List.set_cons_zero, List.set_cons_succ]
              refine wpAnyH_take (i := 27) (oi := { dst := some 127, op := Go.Op.convert 27 9 (Go.Operand.tmp 126), type := 9, pos := "law.go:56", after := #[{ on := 26, ground := Go.Ground.data }, { on := 24, ground := Go.Ground.guard }], guard := some (24, true) }) (v := ?_) rfl (by kernel_rfl) (by kernel_rfl) (by kernel_rfl) (fun _ _ _ h => h) (Or.inl ⟨by rfl, ?_⟩) (by assumption) ?_
              rotate_left 1
              · (intro w hSw; (try dsimp only at hSw); go_simp; try with_reducible rfl)
              try simp only [Act.put, List.setIfInBounds_toArray, List.set_cons_zero, List.set_cons_succ]
              refine wpAnyH_take (i := 28) (oi := { dst := some 128, op := Go.Op.fieldAddr 45 (Go.Operand.tmp 2) 2, type := 0, pos := "law.go:56", after := #[{ on := 24, ground := Go.Ground.guard }], guard := some (24, true) }) (v := ?_) rfl (by kernel_rfl) (by kernel_rfl) (by kernel_rfl) (fun _ _ _ h => h) (Or.inl ⟨by rfl, ?_⟩) (by assumption) ?_
              rotate_left 1
              · (intro w hSw; (try dsimp only at hSw); go_simp; try with_reducible rfl)
              try simp only [Act.put, List.setIfInBounds_toArray, List.set_cons_zero, List.set_cons_succ]
              refine wpAnyH_take (i := 29) (oi := { dst := some 129, op := Go.Op.load 27 (Go.Operand.tmp 128), type := 27, pos := "law.go:56", after := #[{ on := 28, ground := Go.Ground.data }, { on := 24, ground := Go.Ground.guard }], guard := some (24, true) }) (v := ?_) rfl (by kernel_rfl) (by kernel_rfl) (by kernel_rfl) (fun _ _ _ h => h) (Or.inl ⟨by rfl, ?_⟩) (by assumption) ?_
              rotate_left 1
              · (intro w hSw; (try dsimp only at hSw); go_simp; try with_reducible rfl)
              try simp only [Act.put, List.setIfInBounds_toArray, List.set_cons_zero, List.set_cons_succ]
              refine wpAnyH_take (i := 30) (oi := { dst := some 130, op := Go.Op.convert 27 9 (Go.Operand.tmp 129), type := 9, pos := "law.go:56", after := #[{ on := 29, ground := Go.Ground.data }, { on := 24, ground := Go.Ground.guard }], guard := some (24, true) }) (v := ?_) rfl (by kernel_rfl) (by kernel_rfl) (by kernel_rfl) (fun _ _ _ h => h) (Or.inl ⟨by rfl, ?_⟩) (by assumption) ?_
              rotate_left 1
              · (intro w hSw; (try dsimp only at hSw); go_simp; try with_reducible rfl)
              try simp only [Act.put, List.setIfInBounds_toArray, List.set_cons_zero, List.set_cons_succ]
              refine wpAnyH_take (i := 31) (oi := { dst := some 131, op := Go.Op.binOp Go.BinOp.eql 9 (Go.Operand.tmp 127) (Go.Operand.tmp 130) 9, type := 4, pos := "law.go:56", after := #[{ on := 27, ground := Go.Ground.data }, { on := 30, ground := Go.Ground.data }, { on := 24, ground := Go.Ground.guard }], guard := some (24, true) }) (v := ?_) rfl (by kernel_rfl) (by kernel_rfl) (by kernel_rfl) (fun _ _ _ h => h) (Or.inl ⟨by rfl, ?_⟩) (by assumption) ?_
              rotate_left 1
              · (intro w hSw; (try dsimp only at hSw); go_simp; try with_reducible rfl)
              try simp only [Act.put, List.setIfInBounds_toArray, List.set_cons_zero, List.set_cons_succ]
              refine wpAnyH_take (i := 32) (oi := { dst := some 132, op := Go.Op.pick (Go.Operand.tmp 124) (Go.Operand.tmp 131) (Go.Operand.const (Go.Value.bool false)), type := 4, pos := "law.go:56", after := #[{ on := 24, ground := Go.Ground.data }, { on := 31, ground := Go.Ground.data }], guard := none }) (v := ?_) rfl (by kernel_rfl) (by kernel_rfl) (by kernel_rfl) (fun _ _ _ h => h) (Or.inl ⟨by rfl, ?_⟩) (by assumption) ?_
              rotate_left 1
              · (intro w hSw; (try dsimp only at hSw); go_simp; try with_reducible rfl)
              try simp only [Act.put, List.setIfInBounds_toArray, List.set_cons_zero, List.set_cons_succ]
              refine wpAnyH_take (i := 33) (oi := { dst := some 133, op := Go.Op.move (Go.Operand.tmp 132), type := 4, pos := "law.go:56", after := #[{ on := 32, ground := Go.Ground.data }, { on := 24, ground := Go.Ground.chain }], guard := none }) (v := ?_) rfl (by kernel_rfl) (by kernel_rfl) (by kernel_rfl) (fun _ _ _ h => h) (Or.inl ⟨by rfl, ?_⟩) (by assumption) ?_
              rotate_left 1
              · (intro w hSw; (try dsimp only at hSw); go_simp; try with_reducible rfl)
              try simp only [Act.put, List.setIfInBounds_toArray, List.set_cons_zero, List.set_cons_succ]
              refine wpAnyH_ready (rs := [34]) (by kernel_rfl) (by simp) ?_
              refine AllReadyH.cons (o := { dst := some 134, op := Go.Op.call { callee := Go.Callee.value (Go.Operand.func 5), args := #[], argTypes := #[] }, type := 4, pos := "law.go:56", after := #[{ on := 33, ground := Go.Ground.chain }, { on := 33, ground := Go.Ground.guard }], guard := some (33, true) }) rfl (fun K hK => ?_) AllReadyH.nil
              go_simp
              go_at_call 5
              (refine (awake_calls _).mono ?_); rintro x v7 ⟨rfl, hb⟩
              replace HB8 := Lib.hid (HB8.out.trans (hb.mono HB8.out.size))
              clear hb
              clear hHeld
              refine hK.out _ _ ?_ (fun hHeld => ?_)
              · ((try dsimp only); exact S8.out _ HB8.out)
              clear hK K
              refine wpAnyH_take (i := 35) (oi := { dst := some 135, op := Go.Op.pick (Go.Operand.tmp 133) (Go.Operand.tmp 134) (Go.Operand.const (Go.Value.bool false)), type := 4, pos := "law.go:56", after := #[{ on := 33, ground := Go.Ground.data }, { on := 34, ground := Go.Ground.data }], guard := none }) (v := ?_) rfl (by kernel_rfl) (by kernel_rfl) (by kernel_rfl) (fun _ _ _ h => h) (Or.inl ⟨by rfl, ?_⟩) (by assumption) ?_
              rotate_left 1
              · (intro w hSw; (try dsimp only at hSw); go_simp; try with_reducible rfl)
              try simp only [Act.put, List.setIfInBounds_toArray, List.set_cons_zero, List.set_cons_succ]
              refine wpAnyH_take (i := 36) (oi := { dst := some 4, op := Go.Op.assign (Go.Operand.tmp 135), type := 4, pos := "law.go:56", after := #[{ on := 35, ground := Go.Ground.data }, { on := 34, ground := Go.Ground.chain }, { on := 0, ground := Go.Ground.phase }, { on := 1, ground := Go.Ground.phase }, { on := 2, ground := Go.Ground.phase }, { on := 3, ground := Go.Ground.phase }, { on := 4, ground := Go.Ground.phase }, { on := 5, ground := Go.Ground.phase }, { on := 6, ground := Go.Ground.phase }, { on := 7, ground := Go.Ground.phase }, { on := 8, ground := Go.Ground.phase }, { on := 9, ground := Go.Ground.phase }, { on := 10, ground := Go.Ground.phase }, { on := 11, ground := Go.Ground.phase }, { on := 12, ground := Go.Ground.phase }, { on := 13, ground := Go.Ground.phase }, { on := 14, ground := Go.Ground.phase }, { on := 15, ground := Go.Ground.phase }, { on := 16, ground := Go.Ground.phase }, { on := 17, ground := Go.Ground.phase }, { on := 18, ground := Go.Ground.phase }, { on := 19, ground := Go.Ground.phase }, { on := 20, ground := Go.Ground.phase }, { on := 21, ground := Go.Ground.phase }, { on := 22, ground := Go.Ground.phase }, { on := 23, ground := Go.Ground.phase }, { on := 24, ground := Go.Ground.phase }, { on := 25, ground := Go.Ground.phase }, { on := 26, ground := Go.Ground.phase }, { on := 27, ground := Go.Ground.phase }, { on := 28, ground := Go.Ground.phase }, { on := 29, ground := Go.Ground.phase }, { on := 30, ground := Go.Ground.phase }, { on := 31, ground := Go.Ground.phase }, { on := 32, ground := Go.Ground.phase }, { on := 33, ground := Go.Ground.phase }, { on := 34, ground := Go.Ground.phase }, { on := 35, ground := Go.Ground.phase }], guard := none }) (v := ?_) rfl (by kernel_rfl) (by kernel_rfl) (by kernel_rfl) (fun _ _ _ h => h) (Or.inl ⟨by rfl, ?_⟩) (by assumption) ?_
              rotate_left 1
              · (intro w hSw; (try dsimp only at hSw); go_simp; try with_reducible rfl)
              try simp only [Act.put, List.setIfInBounds_toArray, List.set_cons_zero, List.set_cons_succ]
              refine wpAnyH_done (by kernel_rfl) ?_ _
              refine NoPanic.normal ?_
              go_wp2
              go_ret
              exact ⟨rfl, HBW.out.trans (HB8.out.mono HBW.out.size)⟩
            · have b3 : ((e : Int) != 0) = true := by simp; omega
              have b3' : ¬ (e : Int) = 0 := by omega
              clear he0
              go_upto_region 10 with (go_at_call 18; (with_reducible refine (CY.out _ HB5.out).mono ?_); rintro x v2 ⟨A6, m6, c6, hm6, rfl, ho6, hb⟩; have HM6 := Lib.hid hm6; have HO6 := Lib.hid ho6; have HB12 := Lib.hid hb; clear hb hm6 ho6)
              have CP := Lib.hid (CBB.out.2.2.2.1 A6 c6 v2 v2 (Below.refl _ _) (Kd.C_of_reads (d := (0 : Int)) (by rw [← HM6.out]; exact own_reads' HO6.out)) (by rw [← HM6.out]; exact own_le HO6.out))
              rw [← HM6.out] at CP
              go_upto_region 11 with (go_at_call 16; (with_reducible refine CP.out.mono ?_); rintro x v4 ⟨A8, m8, c8, hm8, hc8, rfl, hr8, hb⟩; have HM8 := Lib.hid hm8; have HC8 := Lib.hid hc8; have HR8 := Lib.hid hr8; have HB14 := Lib.hid (HB12.out.trans (hb.mono HB12.out.size)); have HO8 := Lib.hid (pw_own_below HO6.out hb); clear hb hm8 hc8 hr8)
              obtain ⟨W8, hW8⟩ : ∃ W8, W8 = v4.alloc (.cells #[.int .u64 n, .int .i64 e, .slice A8 m8 c8] 47) := ⟨_, rfl⟩
              obtain ⟨V0, hV0⟩ : ∃ V0, V0 = v4.heap.size := ⟨_, rfl⟩
              have hb3 : Below v4.heap.size v4 W8 := by rw [hW8]; exact (Below.refl _ _).alloc (Nat.le_refl _) _
              have HV8 := Lib.hid (show Blk W8 V0 47 #[.int .u64 n, .int .i64 e, .slice A8 m8 c8] by rw [hW8, hV0]; exact Blk.new _ _ _)
              have HB15 := Lib.hid (HB14.out.trans (hb3.mono HB14.out.size))
              have HQ8 := Lib.hid (Blk.below HQ5.out HB15.out (Blk.lt HQ5.out))
              have HR9 := Lib.hid (Kd.C_below HR8.out hb3)
              have HO9 := Lib.hid (pw_own_below HO8.out hb3)
              rw [← hW8, ← hV0]
              clear hW8 hV0 hb3
              have HBW := Lib.hid (show Below w.heap.size w W8 from HB5.out.trans (HB15.out.mono HB5.out.size))
              have S8 := Lib.hid (fun W (hB : Below W8.heap.size W8 W) => show ((W.cell? ⟨Q0, 0, none⟩ = some (.int .u64 n) ∧ W.cell? ⟨Q0, 1, none⟩ = some (.int .i64 e) ∧ W.cell? ⟨Q0, 2, none⟩ = some (.slice A0 m0 c0)) ∧ (W.cell? ⟨V0, 0, none⟩ = some (.int .u64 n) ∧ W.cell? ⟨V0, 1, none⟩ = some (.int .i64 e) ∧ W.cell? ⟨V0, 2, none⟩ = some (.slice A8 m8 c8)) ∧ (convert 27 9 (.slice A6 m6 c6)).run Try.prog W = .ok (.string (strOfNums (leB n 8 ++ (leB e 1 ++ data)))) W ∧ (convert 27 9 (.slice A8 m8 c8)).run Try.prog W = .ok (.string (strOfNums data)) W ∧ (convert 27 9 (.slice A0 m0 c0)).run Try.prog W = .ok (.string (strOfNums data)) W) from ⟨(blk3 (Blk.below HQ8.out hB (Blk.lt HQ8.out))).1, (blk3 (Blk.below HV8.out hB (Blk.lt HV8.out))).1, str_reads (own_reads' (pw_own_below HO9.out hB)), str_reads (Kd.reads_of_C (d := (0 : Int)) (Kd.C_below HR9.out hB)), str_reads (Kd.reads_of_C (d := (0 : Int)) (Kd.C_below HR0.out (HBW.out.trans (hB.mono HBW.out.size))))⟩)
              have HB8 := Lib.hid (show Below W8.heap.size W8 W8.drew from (Below.refl _ _).drew)
              refine wp_region_noPanic ?_
              refine wp_region_held_drew (S := (fun W => ((W.cell? ⟨Q0, 0, none⟩ = some (.int .u64 n) ∧ W.cell? ⟨Q0, 1, none⟩ = some (.int .i64 e) ∧ W.cell? ⟨Q0, 2, none⟩ = some (.slice A0 m0 c0)) ∧ (W.cell? ⟨V0, 0, none⟩ = some (.int .u64 n) ∧ W.cell? ⟨V0, 1, none⟩ = some (.int .i64 e) ∧ W.cell? ⟨V0, 2, none⟩ = some (.slice A8 m8 c8)) ∧ (convert 27 9 (.slice A6 m6 c6)).run Try.prog W = .ok (.string (strOfNums (leB n 8 ++ (leB e 1 ++ data)))) W ∧ (convert 27 9 (.slice A8 m8 c8)).run Try.prog W = .ok (.string (strOfNums data)) W ∧ (convert 27 9 (.slice A0 m0 c0)).run Try.prog W = .ok (.string (strOfNums data)) W))) (by kernel_rfl) ?_ (fun hHeld => ?_)
              · ((try dsimp only); exact S8.out _ HB8.out)
              refine wpAnyH_take (i := 0) (oi := { dst := some 100, op := Go.Op.move (Go.Operand.tmp 9), type := 27, pos := "law.go:56", after := #[], guard := none }) (v := ?_) rfl (by kernel_rfl) (by kernel_rfl) (by kernel_rfl) (fun _ _ _ h => h) (Or.inl ⟨by rfl, ?_⟩) (by assumption) ?_
              rotate_left 1
              · (intro w hSw; (try dsimp only at hSw); go_simp; try with_reducible rfl)
              try simp only [Act.put, List.setIfInBounds_toArray, List.set_cons_zero, List.set_cons_succ]
              refine wpAnyH_take (i := 1) (oi := { dst := some 101, op := Go.Op.convert 27 9 (Go.Operand.tmp 100), type := 9, pos := "law.go:56", after := #[{ on := 0, ground := Go.Ground.data }], guard := none }) (v := ?_) rfl (by kernel_rfl) (by kernel_rfl) (by kernel_rfl) (fun _ _ _ h => h) (Or.inl ⟨by rfl, ?_⟩) (by assumption) ?_
              rotate_left 1
              · (intro w hSw; (try dsimp only at hSw); go_simp; try with_reducible rfl)
              try simp only [Act.put, List.setIfInBounds_toArray, List.set_cons_zero, List.set_cons_succ]
              refine wpAnyH_take (i := 2) (oi := { dst := some 102, op := Go.Op.load 45 (Go.Operand.tmp 2), type := 45, pos := "law.go:56", after := #[], guard := none }) (v := ?_) rfl (by kernel_rfl) (by kernel_rfl) (by kernel_rfl) (fun _ _ _ h => h) (Or.inl ⟨by rfl, ?_⟩) (by assumption) ?_
              rotate_left 1
              · (intro w hSw; (try dsimp only at hSw); go_simp; try with_reducible rfl)
              try simp only [Act.put, List.setIfInBounds_toArray, List.set_cons_zero, List.set_cons_succ]
              refine wpAnyH_ready (rs := [3]) (by kernel_rfl) (by simp) ?_
              refine AllReadyH.cons (o := { dst := some 103, op := Go.Op.call { callee := Go.Callee.value (Go.Operand.func 19), args := #[Go.Operand.tmp 102], argTypes := #[45] }, type := 27, pos := "law.go:56", after := #[{ on := 2, ground := Go.Ground.data }], guard := none }) rfl (fun K hK => ?_) AllReadyH.nil
              go_simp
              go_at_call 19
              (refine (CZ.out _ (HBW.out.trans (HB8.out.mono HBW.out.size))).mono ?_); rintro x v5 ⟨A9, m9, c9, hm9, rfl, hr9, hb⟩
              clear hm9
              have k9 := str_reads (c := c9) hr9
              replace HB8 := Lib.hid (HB8.out.trans (hb.mono HB8.out.size))
              clear hb
              clear hHeld
              refine hK.out _ _ ?_ (fun hHeld => ?_)
              · ((try dsimp only); exact S8.out _ HB8.out)
              clear hK K
              refine wpAnyH_ready (rs := [4]) (by kernel_rfl) (by simp) ?_
              refine AllReadyH.cons (o := { dst := some 104, op := Go.Op.convert 27 9 (Go.Operand.tmp 103), type := 9, pos := "law.go:56", after := #[{ on := 3, ground := Go.Ground.data }], guard := none }) rfl (fun K hK => ?_) AllReadyH.nil
              go_simp
              clear hHeld
              refine hK.out _ _ ?_ (fun hHeld => ?_)
              · ((try dsimp only); exact S8.out _ HB8.out)
              clear hK K
              refine wpAnyH_take (i := 5) (oi := { dst := some 105, op := Go.Op.binOp Go.BinOp.eql 9 (Go.Operand.tmp 101) (Go.Operand.tmp 104) 9, type := 4, pos := "law.go:56", after := #[{ on := 1, ground := Go.Ground.data }, { on := 4, ground := Go.Ground.data }], guard := none }) (v := ?_) rfl (by kernel_rfl) (by kernel_rfl) (by kernel_rfl) (fun _ _ _ h => h) (Or.inl ⟨by rfl, ?_⟩) (by assumption) ?_
              rotate_left 1
              · (intro w hSw; (try dsimp only at hSw); go_simp; try with_reducible rfl)
              try simp only [Act.put, List.setIfInBounds_toArray, List.set_cons_zero, List.set_cons_succ]
              refine wpAnyH_take (i := 6) (oi := { dst := some 106, op := Go.Op.move (Go.Operand.tmp 105), type := 4, pos := "law.go:56", after := #[{ on := 5, ground := Go.Ground.data }, { on := 3, ground := Go.Ground.chain }], guard := none }) (v := ?_) rfl (by kernel_rfl) (by kernel_rfl) (by kernel_rfl) (fun _ _ _ h => h) (Or.inl ⟨by rfl, ?_⟩) (by assumption) ?_
              rotate_left 1
              · (intro w hSw; (try dsimp only at hSw); go_simp; try with_reducible rfl)
              try simp only [Act.put, List.setIfInBounds_toArray, List.set_cons_zero, List.set_cons_succ]
              refine wpAnyH_take (i := 7) (oi := { dst := some 107, op := Go.Op.move (Go.Operand.tmp 11), type := 32, pos := "law.go:56", after := #[{ on := 6, ground := Go.Ground.guard }], guard := some (6, true) }) (v := ?_) rfl (by kernel_rfl) (by kernel_rfl) (by kernel_rfl) (fun _ _ _ h => h) (Or.inl ⟨by rfl, ?_⟩) (by assumption) ?_
              rotate_left 1
              · (intro w hSw; (try dsimp only at hSw); go_simp; try with_reducible rfl)
              try simp only [Act.put, List.setIfInBounds_toArray, List.set_cons_zero, List.set_cons_succ]
              refine wpAnyH_take (i := 8) (oi := { dst := some 108, op := Go.Op.binOp Go.BinOp.eql 32 (Go.Operand.tmp 107) (Go.Operand.const (Go.Value.int Go.IntKind.i64 0)) 32, type := 4, pos := "law.go:56", after := #[{ on := 7, ground := Go.Ground.data }, { on := 6, ground := Go.Ground.guard }], guard := some (6, true) }) (v := ?_) rfl (by kernel_rfl) (by kernel_rfl) (by kernel_rfl) (fun _ _ _ h => h) (Or.inl ⟨by rfl, ?_⟩) (by assumption) ?_
              rotate_left 1
              · (intro w hSw; (try dsimp only at hSw); go_simp; try with_reducible rfl)
              try simp only [Act.put, List.setIfInBounds_toArray, List.set_cons_zero, List.set_cons_succ]
              refine wpAnyH_take (i := 9) (oi := { dst := some 109, op := Go.Op.pick (Go.Operand.tmp 106) (Go.Operand.tmp 108) (Go.Operand.const (Go.Value.bool false)), type := 4, pos := "law.go:56", after := #[{ on := 6, ground := Go.Ground.data }, { on := 8, ground := Go.Ground.data }], guard := none }) (v := ?_) rfl (by kernel_rfl) (by kernel_rfl) (by kernel_rfl) (fun _ _ _ h => h) (Or.inl ⟨by rfl, ?_⟩) (by assumption) ?_
              rotate_left 1
              · (intro w hSw; (try dsimp only at hSw); go_simp; try with_reducible rfl)
              try simp only [Act.put, List.setIfInBounds_toArray, List.set_cons_zero, List.set_cons_succ]
              refine wpAnyH_take (i := 10) (oi := { dst := some 110, op := Go.Op.move (Go.Operand.tmp 109), type := 4, pos := "law.go:56", after := #[{ on := 9, ground := Go.Ground.data }, { on := 6, ground := Go.Ground.chain }], guard := none }) (v := ?_) rfl (by kernel_rfl) (by kernel_rfl) (by kernel_rfl) (fun _ _ _ h => h) (Or.inl ⟨by rfl, ?_⟩) (by assumption) ?_
              rotate_left 1
              · (intro w hSw; (try dsimp only at hSw); go_simp; try with_reducible rfl)
              try simp only [Act.put, List.setIfInBounds_toArray, List.set_cons_zero, List.set_cons_succ]
              refine wpAnyH_take (i := 11) (oi := { dst := some 111, op := Go.Op.fieldAddr 47 (Go.Operand.tmp 10) 0, type := 0, pos := "law.go:56", after := #[{ on := 10, ground := Go.Ground.guard }], guard := some (10, true) }) (v := ?_) rfl (by kernel_rfl) (by kernel_rfl) (by kernel_rfl) (fun _ _ _ h => h) (Or.inl ⟨by rfl, ?_⟩) (by assumption) ?_
              rotate_left 1
              · (intro w hSw; (try dsimp only at hSw); go_simp; try with_reducible rfl)
              try simp only [Act.put, List.setIfInBounds_toArray, List.set_cons_zero, List.set_cons_succ]
              refine wpAnyH_take (i := 12) (oi := { dst := some 112, op := Go.Op.load 22 (Go.Operand.tmp 111), type := 22, pos := "law.go:56", after := #[{ on := 11, ground := Go.Ground.data }, { on := 10, ground := Go.Ground.guard }], guard := some (10, true) }) (v := ?_) rfl (by kernel_rfl) (by kernel_rfl) (by kernel_rfl) (fun _ _ _ h => h) (Or.inl ⟨by rfl, ?_⟩) (by assumption) ?_
              rotate_left 1
              · (intro w hSw; (try dsimp only at hSw); go_simp; try with_reducible rfl)
              try simp only [Act.put, List.setIfInBounds_toArray, List.set_cons_zero, List.set_cons_succ]
              refine wpAnyH_take (i := 13) (oi := { dst := some 113, op := Go.Op.fieldAddr 45 (Go.Operand.tmp 2) 0, type := 0, pos := "law.go:56", after := #[{ on := 10, ground := Go.Ground.guard }], guard := some (10, true) }) (v := ?_) rfl (by kernel_rfl) (by kernel_rfl) (by kernel_rfl) (fun _ _ _ h => h) (Or.inl ⟨by rfl, ?_⟩) (by assumption) ?_
              rotate_left 1
              · (intro w hSw; (try dsimp only at hSw); go_simp; try with_reducible rfl)
              try simp only [Act.put, List.setIfInBounds_toArray, List.set_cons_zero, List.set_cons_succ]
              refine wpAnyH_take (i := 14) (oi := { dst := some 114, op := Go.Op.load 22 (Go.Operand.tmp 113), type := 22, pos := "law.go:56", after := #[{ on := 13, ground := Go.Ground.data }, { on := 10, ground := Go.Ground.guard }], guard := some (10, true) }) (v := ?_) rfl (by kernel_rfl) (by kernel_rfl) (by kernel_rfl) (fun _ _ _ h => h) (Or.inl ⟨by rfl, ?_⟩) (by assumption) ?_
              rotate_left 1
              · (intro w hSw; (try dsimp only at hSw); go_simp; try with_reducible rfl)
              try simp only [Act.put, List.setIfInBounds_toArray, List.set_cons_zero, List.set_cons_succ]
              refine wpAnyH_take (i := 15) (oi := { dst := some 115, op := Go.Op.binOp Go.BinOp.eql 22 (Go.Operand.tmp 112) (Go.Operand.tmp 114) 22, type := 4, pos := "law.go:56", after := #[{ on := 12, ground := Go.Ground.data }, { on := 14, ground := Go.Ground.data }, { on := 10, ground := Go.Ground.guard }], guard := some (10, true) }) (v := ?_) rfl (by kernel_rfl) (by kernel_rfl) (by kernel_rfl) (fun _ _ _ h => h) (Or.inl ⟨by rfl, ?_⟩) (by assumption) ?_
              rotate_left 1
              · (intro w hSw; (try dsimp only at hSw); go_simp; try with_reducible rfl)
              try simp only [Act.put, List.setIfInBounds_toArray, List.set_cons_zero, List.set_cons_succ]
              refine wpAnyH_take (i := 16) (oi := { dst := some 116, op := Go.Op.pick (Go.Operand.tmp 110) (Go.Operand.tmp 115) (Go.Operand.const (Go.Value.bool false)), type := 4, pos := "law.go:56", after := #[{ on := 10, ground := Go.Ground.data }, { on := 15, ground := Go.Ground.data }], guard := none }) (v := ?_) rfl (by kernel_rfl) (by kernel_rfl) (by kernel_rfl) (fun _ _ _ h => h) (Or.inl ⟨by rfl, ?_⟩) (by assumption) ?_
              rotate_left 1
              · (intro w hSw; (try dsimp only at hSw); go_simp; try with_reducible rfl)
              try simp only [Act.put, List.setIfInBounds_toArray, List.set_cons_zero, List.set_cons_succ]
              refine wpAnyH_take (i := 17) (oi := { dst := some 117, op := Go.Op.move (Go.Operand.tmp 116), type := 4, pos := "law.go:56", after := #[{ on := 16, ground := Go.Ground.data }, { on := 10, ground := Go.Ground.chain }], guard := none }) (v := ?_) rfl (by kernel_rfl) (by kernel_rfl) (by kernel_rfl) (fun _ _ _ h => h) (Or.inl ⟨by rfl, ?_⟩) (by assumption) ?_
              rotate_left 1
              · (intro w hSw; (try dsimp only at hSw); go_simp; try with_reducible rfl)
              try simp only [Act.put, List.setIfInBounds_toArray, List.set_cons_zero, List.set_cons_succ]
              refine wpAnyH_take (i := 18) (oi := { dst := some 118, op := Go.Op.fieldAddr 47 (Go.Operand.tmp 10) 1, type := 0, pos := "law.go:56", after := #[{ on := 17, ground := Go.Ground.guard }], guard := some (17, true) }) (v := ?_) rfl (by kernel_rfl) (by kernel_rfl) (by kernel_rfl) (fun _ _ _ h => h) (Or.inl ⟨by rfl, ?_⟩) (by assumption) ?_
              rotate_left 1
              · (intro w hSw; (try dsimp only at hSw); go_simp; try with_reducible rfl)
              try simp only [Act.put, List.setIfInBounds_toArray, List.set_cons_zero, List.set_cons_succ]
              refine wpAnyH_take (i := 19) (oi := { dst := some 119, op := Go.Op.load 32 (Go.Operand.tmp 118), type := 32, pos := "law.go:56", after := #[{ on := 18, ground := Go.Ground.data }, { on := 17, ground := Go.Ground.guard }], guard := some (17, true) }) (v := ?_) rfl (by kernel_rfl) (by kernel_rfl) (by kernel_rfl) (fun _ _ _ h => h) (Or.inl ⟨by rfl, ?_⟩) (by assumption) ?_
              rotate_left 1
              · (intro w hSw; (try dsimp only at hSw); go_simp; try with_reducible rfl)
              try simp only [Act.put, List.setIfInBounds_toArray, List.set_cons_zero, List.set_cons_succ]
              refine wpAnyH_take (i := 20) (oi := { dst := some 120, op := Go.Op.fieldAddr 45 (Go.Operand.tmp 2) 1, type := 0, pos := "law.go:56", after := #[{ on := 17, ground := Go.Ground.guard }], guard := some (17, true) }) (v := ?_) rfl (by kernel_rfl) (by kernel_rfl) (by kernel_rfl) (fun _ _ _ h => h) (Or.inl ⟨by rfl, ?_⟩) (by assumption) ?_
              rotate_left 1
              · (intro w hSw; (try dsimp only at hSw); go_simp; try with_reducible rfl)
              try simp only [Act.put, List.setIfInBounds_toArray, List.set_cons_zero, List.set_cons_succ]
              refine wpAnyH_take (i := 21) (oi := { dst := some 121, op := Go.Op.load 3 (Go.Operand.tmp 120), type := 3, pos := "law.go:56", after := #[{ on := 20, ground := Go.Ground.data }, { on := 17, ground := Go.Ground.guard }], guard := some (17, true) }) (v := ?_) rfl (by kernel_rfl) (by kernel_rfl) (by kernel_rfl) (fun _ _ _ h => h) (Or.inl ⟨by rfl, ?_⟩) (by assumption) ?_
              rotate_left 1
              · (intro w hSw; (try dsimp only at hSw); go_simp; try with_reducible rfl)
              try simp only [Act.put, List.setIfInBounds_toArray, List.set_cons_zero, List.set_cons_succ]
              refine wpAnyH_take (i := 22) (oi := { dst := some 122, op := Go.Op.binOp Go.BinOp.eql 3 (Go.Operand.tmp 119) (Go.Operand.tmp 121) 3, type := 4, pos := "law.go:56", after := #[{ on := 19, ground := Go.Ground.data }, { on := 21, ground := Go.Ground.data }, { on := 17, ground := Go.Ground.guard }], guard := some (17, true) }) (v := ?_) rfl (by kernel_rfl) (by kernel_rfl) (by kernel_rfl) (fun _ _ _ h => h) (Or.inl ⟨by rfl, ?_⟩) (by assumption) ?_
              rotate_left 1
              · (intro w hSw; (try dsimp only at hSw); go_simp; try with_reducible rfl)
              try simp only [Act.put, List.setIfInBounds_toArray, List.set_cons_zero, List.set_cons_succ]
              refine wpAnyH_take (i := 23) (oi := { dst := some 123, op := Go.Op.pick (Go.Operand.tmp 117) (Go.Operand.tmp 122) (Go.Operand.const (Go.Value.bool false)), type := 4, pos := "law.go:56", after := #[{ on := 17, ground := Go.Ground.data }, { on := 22, ground := Go.Ground.data }], guard := none }) (v := ?_) rfl (by kernel_rfl) (by kernel_rfl) (by kernel_rfl) (fun _ _ _ h => h) (Or.inl ⟨by rfl, ?_⟩) (by assumption) ?_
              rotate_left 1
              · (intro w hSw; (try dsimp only at hSw); go_simp; try with_reducible rfl)
              try simp only [Act.put, List.setIfInBounds_toArray, List.set_cons_zero, List.set_cons_succ]
              refine wpAnyH_take (i := 24) (oi := { dst := some 124, op := Go.Op.move (Go.Operand.tmp 123), type := 4, pos := "law.go:56", after := #[{ on := 23, ground := Go.Ground.data }, { on := 17, ground := Go.Ground.chain }], guard := none }) (v := ?_) rfl (by kernel_rfl) (by kernel_rfl) (by kernel_rfl) (fun _ _ _ h => h) (Or.inl ⟨by rfl, ?_⟩) (by assumption) ?_
              rotate_left 1
              · (intro w hSw; (try dsimp only at hSw); go_simp; try with_reducible rfl)
              try simp only [Act.put, List.setIfInBounds_toArray, List.set_cons_zero, List.set_cons_succ]
              refine wpAnyH_take (i := 25) (oi := { dst := some 125, op := Go.Op.fieldAddr 47 (Go.Operand.tmp 10) 2, type := 0, pos := "law.go:56", after := #[{ on := 24, ground := Go.Ground.guard }], guard := some (24, true) }) (v := ?_) rfl (by kernel_rfl) (by kernel_rfl) (by kernel_rfl) (fun _ _ _ h => h) (Or.inl ⟨by rfl, ?_⟩) (by assumption) ?_
              rotate_left 1
              · (intro w hSw; (try dsimp only at hSw); go_simp; try with_reducible rfl)
              try simp only [Act.put, List.setIfInBounds_toArray, List.set_cons_zero, List.set_cons_succ]
              refine wpAnyH_take (i := 26) (oi := { dst := some 126, op := Go.Op.load 27 (Go.Operand.tmp 125), type := 27, pos := "law.go:56", after := #[{ on := 25, ground := Go.Ground.data }, { on := 24, ground := Go.Ground.guard }], guard := some (24, true) }) (v := ?_) rfl (by kernel_rfl) (by kernel_rfl) (by kernel_rfl) (fun _ _ _ h => h) (Or.inl ⟨by rfl, ?_⟩) (by assumption) ?_
              rotate_left 1
              · (intro w hSw; (try dsimp only at hSw); go_simp; try with_reducible rfl)
              try simp only [Act.put, List.setIfInBounds_toArray, List.set_cons_zero, List.set_cons_succ]
              refine wpAnyH_take (i := 27) (oi := { dst := some 127, op := Go.Op.convert 27 9 (Go.Operand.tmp 126), type := 9, pos := "law.go:56", after := #[{ on := 26, ground := Go.Ground.data }, { on := 24, ground := Go.Ground.guard }], guard := some (24, true) }) (v := ?_) rfl (by kernel_rfl) (by kernel_rfl) (by kernel_rfl) (fun _ _ _ h => h) (Or.inl ⟨by rfl, ?_⟩) (by assumption) ?_
              rotate_left 1
              · (intro w hSw; (try dsimp only at hSw); go_simp; try with_reducible rfl)
              try simp only [Act.put, List.setIfInBounds_toArray, List.set_cons_zero, List.set_cons_succ]
              refine wpAnyH_take (i := 28) (oi := { dst := some 128, op := Go.Op.fieldAddr 45 (Go.Operand.tmp 2) 2, type := 0, pos := "law.go:56", after := #[{ on := 24, ground := Go.Ground.guard }], guard := some (24, true) }) (v := ?_) rfl (by kernel_rfl) (by kernel_rfl) (by kernel_rfl) (fun _ _ _ h => h) (Or.inl ⟨by rfl, ?_⟩) (by assumption) ?_
              rotate_left 1
              · (intro w hSw; (try dsimp only at hSw); go_simp; try with_reducible rfl)
              try simp only [Act.put, List.setIfInBounds_toArray, List.set_cons_zero, List.set_cons_succ]
              refine wpAnyH_take (i := 29) (oi := { dst := some 129, op := Go.Op.load 27 (Go.Operand.tmp 128), type := 27, pos := "law.go:56", after := #[{ on := 28, ground := Go.Ground.data }, { on := 24, ground := Go.Ground.guard }], guard := some (24, true) }) (v := ?_) rfl (by kernel_rfl) (by kernel_rfl) (by kernel_rfl) (fun _ _ _ h => h) (Or.inl ⟨by rfl, ?_⟩) (by assumption) ?_
              rotate_left 1
              · (intro w hSw; (try dsimp only at hSw); go_simp; try with_reducible rfl)
              try simp only [Act.put, List.setIfInBounds_toArray, List.set_cons_zero, List.set_cons_succ]
              refine wpAnyH_take (i := 30) (oi := { dst := some 130, op := Go.Op.convert 27 9 (Go.Operand.tmp 129), type := 9, pos := "law.go:56", after := #[{ on := 29, ground := Go.Ground.data }, { on := 24, ground := Go.Ground.guard }], guard := some (24, true) }) (v := ?_) rfl (by kernel_rfl) (by kernel_rfl) (by kernel_rfl) (fun _ _ _ h => h) (Or.inl ⟨by rfl, ?_⟩) (by assumption) ?_
              rotate_left 1
              · (intro w hSw; (try dsimp only at hSw); go_simp; try with_reducible rfl)
              try simp only [Act.put, List.setIfInBounds_toArray, List.set_cons_zero, List.set_cons_succ]
              refine wpAnyH_take (i := 31) (oi := { dst := some 131, op := Go.Op.binOp Go.BinOp.eql 9 (Go.Operand.tmp 127) (Go.Operand.tmp 130) 9, type := 4, pos := "law.go:56", after := #[{ on := 27, ground := Go.Ground.data }, { on := 30, ground := Go.Ground.data }, { on := 24, ground := Go.Ground.guard }], guard := some (24, true) }) (v := ?_) rfl (by kernel_rfl) (by kernel_rfl) (by kernel_rfl) (fun _ _ _ h => h) (Or.inl ⟨by rfl, ?_⟩) (by assumption) ?_
              rotate_left 1
              · (intro w hSw; (try dsimp only at hSw); go_simp; try with_reducible rfl)
              try simp only [Act.put, List.setIfInBounds_toArray, List.set_cons_zero, List.set_cons_succ]
              refine wpAnyH_take (i := 32) (oi := { dst := some 132, op := Go.Op.pick (Go.Operand.tmp 124) (Go.Operand.tmp 131) (Go.Operand.const (Go.Value.bool false)), type := 4, pos := "law.go:56", after := #[{ on := 24, ground := Go.Ground.data }, { on := 31, ground := Go.Ground.data }], guard := none }) (v := ?_) rfl (by kernel_rfl) (by kernel_rfl) (by kernel_rfl) (fun _ _ _ h => h) (Or.inl ⟨by rfl, ?_⟩) (by assumption) ?_
              rotate_left 1
              · (intro w hSw; (try dsimp only at hSw); go_simp; try with_reducible rfl)
              try simp only [Act.put, List.setIfInBounds_toArray, List.set_cons_zero, List.set_cons_succ]
              refine wpAnyH_take (i := 33) (oi := { dst := some 133, op := Go.Op.move (Go.Operand.tmp 132), type := 4, pos := "law.go:56", after := #[{ on := 32, ground := Go.Ground.data }, { on := 24, ground := Go.Ground.chain }], guard := none }) (v := ?_) rfl (by kernel_rfl) (by kernel_rfl) (by kernel_rfl) (fun _ _ _ h => h) (Or.inl ⟨by rfl, ?_⟩) (by assumption) ?_
              rotate_left 1
              · (intro w hSw; (try dsimp only at hSw); go_simp; try with_reducible rfl)
              try simp only [Act.put, List.setIfInBounds_toArray, List.set_cons_zero, List.set_cons_succ]
              refine wpAnyH_ready (rs := [34]) (by kernel_rfl) (by simp) ?_
              refine AllReadyH.cons (o := { dst := some 134, op := Go.Op.call { callee := Go.Callee.value (Go.Operand.func 5), args := #[], argTypes := #[] }, type := 4, pos := "law.go:56", after := #[{ on := 33, ground := Go.Ground.chain }, { on := 33, ground := Go.Ground.guard }], guard := some (33, true) }) rfl (fun K hK => ?_) AllReadyH.nil
              go_simp
              go_at_call 5
              (refine (awake_calls _).mono ?_); rintro x v7 ⟨rfl, hb⟩
              replace HB8 := Lib.hid (HB8.out.trans (hb.mono HB8.out.size))
              clear hb
              clear hHeld
              refine hK.out _ _ ?_ (fun hHeld => ?_)
              · ((try dsimp only); exact S8.out _ HB8.out)
              clear hK K
              refine wpAnyH_take (i := 35) (oi := { dst := some 135, op := Go.Op.pick (Go.Operand.tmp 133) (Go.Operand.tmp 134) (Go.Operand.const (Go.Value.bool false)), type := 4, pos := "law.go:56", after := #[{ on := 33, ground := Go.Ground.data }, { on := 34, ground := Go.Ground.data }], guard := none }) (v := ?_) rfl (by kernel_rfl) (by kernel_rfl) (by kernel_rfl) (fun _ _ _ h => h) (Or.inl ⟨by rfl, ?_⟩) (by assumption) ?_
              rotate_left 1
              · (intro w hSw; (try dsimp only at hSw); go_simp; try with_reducible rfl)
              try simp only [Act.put, List.setIfInBounds_toArray, List.set_cons_zero, List.set_cons_succ]
              refine wpAnyH_take (i := 36) (oi := { dst := some 4, op := Go.Op.assign (Go.Operand.tmp 135), type := 4, pos := "law.go:56", after := #[{ on := 35, ground := Go.Ground.data }, { on := 34, ground := Go.Ground.chain }, { on := 0, ground := Go.Ground.phase }, { on := 1, ground := Go.Ground.phase }, { on := 2, ground := Go.Ground.phase }, { on := 3, ground := Go.Ground.phase }, { on := 4, ground := Go.Ground.phase }, { on := 5, ground := Go.Ground.phase }, { on := 6, ground := Go.Ground.phase }, { on := 7, ground := Go.Ground.phase }, { on := 8, ground := Go.Ground.phase }, { on := 9, ground := Go.Ground.phase }, { on := 10, ground := Go.Ground.phase }, { on := 11, ground := Go.Ground.phase }, { on := 12, ground := Go.Ground.phase }, { on := 13, ground := Go.Ground.phase }, { on := 14, ground := Go.Ground.phase }, { on := 15, ground := Go.Ground.phase }, { on := 16, ground := Go.Ground.phase }, { on := 17, ground := Go.Ground.phase }, { on := 18, ground := Go.Ground.phase }, { on := 19, ground := Go.Ground.phase }, { on := 20, ground := Go.Ground.phase }, { on := 21, ground := Go.Ground.phase }, { on := 22, ground := Go.Ground.phase }, { on := 23, ground := Go.Ground.phase }, { on := 24, ground := Go.Ground.phase }, { on := 25, ground := Go.Ground.phase }, { on := 26, ground := Go.Ground.phase }, { on := 27, ground := Go.Ground.phase }, { on := 28, ground := Go.Ground.phase }, { on := 29, ground := Go.Ground.phase }, { on := 30, ground := Go.Ground.phase }, { on := 31, ground := Go.Ground.phase }, { on := 32, ground := Go.Ground.phase }, { on := 33, ground := Go.Ground.phase }, { on := 34, ground := Go.Ground.phase }, { on := 35, ground := Go.Ground.phase }], guard := none }) (v := ?_) rfl (by kernel_rfl) (by kernel_rfl) (by kernel_rfl) (fun _ _ _ h => h) (Or.inl ⟨by rfl, ?_⟩) (by assumption) ?_
              rotate_left 1
              · (intro w hSw; (try dsimp only at hSw); go_simp; try with_reducible rfl)
              try simp only [Act.put, List.setIfInBounds_toArray, List.set_cons_zero, List.set_cons_succ]
              refine wpAnyH_done (by kernel_rfl) ?_ _
              refine NoPanic.normal ?_
              go_wp2
              go_ret
              exact ⟨rfl, HBW.out.trans (HB8.out.mono HBW.out.size)⟩
  case false =>
    have he := HNO.out rfl
    subst he
    go_upto_region 7 with (fail)
    clear s1 s2 t0 t1 t2 r0 r1 r2
    by_cases h1 : E < 0
    · have b1 : decide (E < 0) = true := by simp; omega
      clear CB
      go_wp2_with (go_at_call 5; (with_reducible refine (awake_calls _).mono ?_); rintro x v1 ⟨rfl, hb⟩; have HB9 := Lib.hid (HB5.out.trans (hb.mono HB5.out.size)); clear hb)
      go_ret
      exact ⟨rfl, HB9.out⟩
    · have b1 : decide (E < 0) = false := by simp; omega
      by_cases h2 : 255 < E
      · have b2 : decide (E > 255) = true := by simp; omega
        clear CB
        go_wp2_with (go_at_call 5; (with_reducible refine (awake_calls _).mono ?_); rintro x v1 ⟨rfl, hb⟩; have HB9 := Lib.hid (HB5.out.trans (hb.mono HB5.out.size)); clear hb)
        go_ret
        exact ⟨rfl, HB9.out⟩
      · have b2 : decide (E > 255) = false := by simp; omega
        have b2' : ¬ 255 < E := h2
        by_cases h3 : E ≠ 0 ∧ 0 < m0
        · have b3 : (E != 0) = true := by simp; omega
          have b4 : decide ((m0 : Int) > 0) = true := by simp; omega
          have b5 : ¬ E = 0 := h3.1
          have b6 : (0 : Int) < (m0 : Int) := by omega
          clear CB h3
          go_wp2_with (go_at_call 5; (with_reducible refine (awake_calls _).mono ?_); rintro x v1 ⟨rfl, hb⟩; have HB9 := Lib.hid (HB5.out.trans (hb.mono HB5.out.size)); clear hb)
          go_ret
          exact ⟨rfl, HB9.out⟩
        · have b3 : (if E != 0 then decide ((m0 : Int) > 0) else false) = false := by
            by_cases hE : E = 0
            · simp [hE]
            · have : ¬ 0 < m0 := fun h => h3 ⟨hE, h⟩
              simp; omega
          obtain ⟨e, rfl, he⟩ : ∃ e : Nat, E = e ∧ e < 256 := ⟨E.toNat, by omega, by omega⟩
          have HE := Lib.hid he
          have hz : e = 0 ∨ m0 = 0 := by omega
          have HZ := Lib.hid hz
          have CBB := Lib.hid (CB.out e he hz)
          have CY := Lib.hid (fun W (hB : Below w.heap.size w W) => rep_bytes n e A0 m0 c0 data w W hB HR0.out HM0.out HC0.out HNB.out HE.out (by have := HL0.out; omega))
          have CZ := Lib.hid (fun W (hB : Below w.heap.size w W) => refrep_any n e A0 m0 c0 data w W hB HR0.out HM0.out HC0.out HNB.out HE.out (by have := HL0.out; omega))
          clear he hz h1 h2 h3 CB b3
          rcases HZ.out with hz | hz
          · have b3 : ((e : Int) != 0) = false := by simp [hz]
            clear hz
            go_upto_region 10 with (go_at_call 18; (with_reducible refine (CY.out _ HB5.out).mono ?_); rintro x v2 ⟨A6, m6, c6, hm6, rfl, ho6, hb⟩; have HM6 := Lib.hid hm6; have HO6 := Lib.hid ho6; have HB12 := Lib.hid hb; clear hb hm6 ho6)
            have CP := Lib.hid (CBB.out.2.2.2.1 A6 c6 v2 v2 (Below.refl _ _) (Kd.C_of_reads (d := (0 : Int)) (by rw [← HM6.out]; exact own_reads' HO6.out)) (by rw [← HM6.out]; exact own_le HO6.out))
            rw [← HM6.out] at CP
            go_upto_region 11 with (go_at_call 16; (with_reducible refine CP.out.mono ?_); rintro x v4 ⟨A8, m8, c8, hm8, hc8, rfl, hr8, hb⟩; have HM8 := Lib.hid hm8; have HC8 := Lib.hid hc8; have HR8 := Lib.hid hr8; have HB14 := Lib.hid (HB12.out.trans (hb.mono HB12.out.size)); have HO8 := Lib.hid (pw_own_below HO6.out hb); clear hb hm8 hc8 hr8)
            obtain ⟨W8, hW8⟩ : ∃ W8, W8 = v4.alloc (.cells #[.int .u64 n, .int .i64 e, .slice A8 m8 c8] 47) := ⟨_, rfl⟩
            obtain ⟨V0, hV0⟩ : ∃ V0, V0 = v4.heap.size := ⟨_, rfl⟩
            have hb3 : Below v4.heap.size v4 W8 := by rw [hW8]; exact (Below.refl _ _).alloc (Nat.le_refl _) _
            have HV8 := Lib.hid (show Blk W8 V0 47 #[.int .u64 n, .int .i64 e, .slice A8 m8 c8] by rw [hW8, hV0]; exact Blk.new _ _ _)
            have HB15 := Lib.hid (HB14.out.trans (hb3.mono HB14.out.size))
            have HQ8 := Lib.hid (Blk.below HQ5.out HB15.out (Blk.lt HQ5.out))
            have HR9 := Lib.hid (Kd.C_below HR8.out hb3)
            have HO9 := Lib.hid (pw_own_below HO8.out hb3)
            rw [← hW8, ← hV0]
            clear hW8 hV0 hb3
            have HBW := Lib.hid (show Below w.heap.size w W8 from HB5.out.trans (HB15.out.mono HB5.out.size))
            have S8 := Lib.hid (fun W (hB : Below W8.heap.size W8 W) => show ((W.cell? ⟨Q0, 0, none⟩ = some (.int .u64 n) ∧ W.cell? ⟨Q0, 1, none⟩ = some (.int .i64 e) ∧ W.cell? ⟨Q0, 2, none⟩ = some (.slice A0 m0 c0)) ∧ (W.cell? ⟨V0, 0, none⟩ = some (.int .u64 n) ∧ W.cell? ⟨V0, 1, none⟩ = some (.int .i64 e) ∧ W.cell? ⟨V0, 2, none⟩ = some (.slice A8 m8 c8)) ∧ (convert 27 9 (.slice A6 m6 c6)).run Try.prog W = .ok (.string (strOfNums (leB n 8 ++ (leB e 1 ++ data)))) W ∧ (convert 27 9 (.slice A8 m8 c8)).run Try.prog W = .ok (.string (strOfNums data)) W ∧ (convert 27 9 (.slice A0 m0 c0)).run Try.prog W = .ok (.string (strOfNums data)) W) from ⟨(blk3 (Blk.below HQ8.out hB (Blk.lt HQ8.out))).1, (blk3 (Blk.below HV8.out hB (Blk.lt HV8.out))).1, str_reads (own_reads' (pw_own_below HO9.out hB)), str_reads (Kd.reads_of_C (d := (0 : Int)) (Kd.C_below HR9.out hB)), str_reads (Kd.reads_of_C (d := (0 : Int)) (Kd.C_below HR0.out (HBW.out.trans (hB.mono HBW.out.size))))⟩)
            have HB8 := Lib.hid (show Below W8.heap.size W8 W8.drew from (Below.refl _ _).drew)
            refine wp_region_noPanic ?_
            refine wp_region_held_drew (S := (fun W => ((W.cell? ⟨Q0, 0, none⟩ = some (.int .u64 n) ∧ W.cell? ⟨Q0, 1, none⟩ = some (.int .i64 e) ∧ W.cell? ⟨Q0, 2, none⟩ = some (.slice A0 m0 c0)) ∧ (W.cell? ⟨V0, 0, none⟩ = some (.int .u64 n) ∧ W.cell? ⟨V0, 1, none⟩ = some (.int .i64 e) ∧ W.cell? ⟨V0, 2, none⟩ = some (.slice A8 m8 c8)) ∧ (convert 27 9 (.slice A6 m6 c6)).run Try.prog W = .ok (.string (strOfNums (leB n 8 ++ (leB e 1 ++ data)))) W ∧ (convert 27 9 (.slice A8 m8 c8)).run Try.prog W = .ok (.string (strOfNums data)) W ∧ (convert 27 9 (.slice A0 m0 c0)).run Try.prog W = .ok (.string (strOfNums data)) W))) (by kernel_rfl) ?_ (fun hHeld => ?_)
            · ((try dsimp only); exact S8.out _ HB8.out)
            refine wpAnyH_take (i := 0) (oi := { dst := some 100, op := Go.Op.move (Go.Operand.tmp 9), type := 27, pos := "law.go:56", after := #[], guard := none }) (v := ?_) rfl (by kernel_rfl) (by kernel_rfl) (by kernel_rfl) (fun _ _ _ h => h) (Or.inl ⟨by rfl, ?_⟩) (by assumption) ?_
            rotate_left 1
            · (intro w hSw; (try dsimp only at hSw); go_simp; try with_reducible rfl)
            try simp only [Act.put, List.setIfInBounds_toArray, List.set_cons_zero, List.set_cons_succ]
            refine wpAnyH_take (i := 1) (oi := { dst := some 101, op := Go.Op.convert 27 9 (Go.Operand.tmp 100), type := 9, pos := "law.go:56", after := #[{ on := 0, ground := Go.Ground.data }], guard := none }) (v := ?_) rfl (by kernel_rfl) (by kernel_rfl) (by kernel_rfl) (fun _ _ _ h => h) (Or.inl ⟨by rfl, ?_⟩) (by assumption) ?_
            rotate_left 1
            · (intro w hSw; (try dsimp only at hSw); go_simp; try with_reducible rfl)
            try simp only [Act.put, List.setIfInBounds_toArray, List.set_cons_zero, List.set_cons_succ]
            refine wpAnyH_take (i := 2) (oi := { dst := some 102, op := Go.Op.load 45 (Go.Operand.tmp 2), type := 45, pos := "law.go:56", after := #[], guard := none }) (v := ?_) rfl (by kernel_rfl) (by kernel_rfl) (by kernel_rfl) (fun _ _ _ h => h) (Or.inl ⟨by rfl, ?_⟩) (by assumption) ?_
            rotate_left 1
            · (intro w hSw; (try dsimp only at hSw); go_simp; try with_reducible rfl)
            try simp only [Act.put, List.setIfInBounds_toArray, List.set_cons_zero, List.set_cons_succ]
            refine wpAnyH_ready (rs := [3]) (by kernel_rfl) (by simp) ?_
            refine AllReadyH.cons (o := { dst := some 103, op := Go.Op.call { callee := Go.Callee.value (Go.Operand.func 19), args := #[Go.Operand.tmp 102], argTypes := #[45] }, type := 27, pos := "law.go:56", after := #[{ on := 2, ground := Go.Ground.data }], guard := none }) rfl (fun K hK => ?_) AllReadyH.nil
            go_simp
            go_at_call 19
            (refine (CZ.out _ (HBW.out.trans (HB8.out.mono HBW.out.size))).mono ?_); rintro x v5 ⟨A9, m9, c9, hm9, rfl, hr9, hb⟩
            clear hm9
            have k9 := str_reads (c := c9) hr9
            replace HB8 := Lib.hid (HB8.out.trans (hb.mono HB8.out.size))
            clear hb
            clear hHeld
            refine hK.out _ _ ?_ (fun hHeld => ?_)
            · ((try dsimp only); exact S8.out _ HB8.out)
            clear hK K
            refine wpAnyH_ready (rs := [4]) (by kernel_rfl) (by simp) ?_
            refine AllReadyH.cons (o := { dst := some 104, op := Go.Op.convert 27 9 (Go.Operand.tmp 103), type := 9, pos := "law.go:56", after := #[{ on := 3, ground := Go.Ground.data }], guard := none }) rfl (fun K hK => ?_) AllReadyH.nil
            go_simp
            clear hHeld
            refine hK.out _ _ ?_ (fun hHeld => ?_)
            · ((try dsimp only); exact S8.out _ HB8.out)
            clear hK K
            refine wpAnyH_take (i := 5) (oi := { dst := some 105, op := Go.Op.binOp Go.BinOp.eql 9 (Go.Operand.tmp 101) (Go.Operand.tmp 104) 9, type := 4, pos := "law.go:56", after := #[{ on := 1, ground := Go.Ground.data }, { on := 4, ground := Go.Ground.data }], guard := none }) (v := ?_) rfl (by kernel_rfl) (by kernel_rfl) (by kernel_rfl) (fun _ _ _ h => h) (Or.inl ⟨by rfl, ?_⟩) (by assumption) ?_
            rotate_left 1
            · (intro w hSw; (try dsimp only at hSw); go_simp; try with_reducible rfl)
            try simp only [Act.put, List.setIfInBounds_toArray, List.set_cons_zero, List.set_cons_succ]
            refine wpAnyH_take (i := 6) (oi := { dst := some 106, op := Go.Op.move (Go.Operand.tmp 105), type := 4, pos := "law.go:56", after := #[{ on := 5, ground := Go.Ground.data }, { on := 3, ground := Go.Ground.chain }], guard := none }) (v := ?_) rfl (by kernel_rfl) (by kernel_rfl) (by kernel_rfl) (fun _ _ _ h => h) (Or.inl ⟨by rfl, ?_⟩) (by assumption) ?_
            rotate_left 1
            · (intro w hSw; (try dsimp only at hSw); go_simp; try with_reducible rfl)
            try simp only [Act.put, List.setIfInBounds_toArray, List.set_cons_zero, List.set_cons_succ]
            refine wpAnyH_take (i := 7) (oi := { dst := some 107, op := Go.Op.move (Go.Operand.tmp 11), type := 32, pos := "law.go:56", after := #[{ on := 6, ground := Go.Ground.guard }], guard := some (6, true) }) (v := ?_) rfl (by kernel_rfl) (by kernel_rfl) (by kernel_rfl) (fun _ _ _ h => h) (Or.inl ⟨by rfl, ?_⟩) (by assumption) ?_
            rotate_left 1
            · (intro w hSw; (try dsimp only at hSw); go_simp; try with_reducible rfl)
            try simp only [Act.put, List.setIfInBounds_toArray, List.set_cons_zero, List.set_cons_succ]
            refine wpAnyH_take (i := 8) (oi := { dst := some 108, op := Go.Op.binOp Go.BinOp.eql 32 (Go.Operand.tmp 107) (Go.Operand.const (Go.Value.int Go.IntKind.i64 0)) 32, type := 4, pos := "law.go:56", after := #[{ on := 7, ground := Go.Ground.data }, { on := 6, ground := Go.Ground.guard }], guard := some (6, true) }) (v := ?_) rfl (by kernel_rfl) (by kernel_rfl) (by kernel_rfl) (fun _ _ _ h => h) (Or.inl ⟨by rfl, ?_⟩) (by assumption) ?_
            rotate_left 1
            · (intro w hSw; (try dsimp only at hSw); go_simp; try with_reducible rfl)
            try simp only [Act.put, List.setIfInBounds_toArray, List.set_cons_zero, List.set_cons_succ]
            refine wpAnyH_take (i := 9) (oi := { dst := some 109, op := Go.Op.pick (Go.Operand.tmp 106) (Go.Operand.tmp 108) (Go.Operand.const (Go.Value.bool false)), type := 4, pos := "law.go:56", after := #[{ on := 6, ground := Go.Ground.data }, { on := 8, ground := Go.Ground.data }], guard := none }) (v := ?_) rfl (by kernel_rfl) (by kernel_rfl) (by kernel_rfl) (fun _ _ _ h => h) (Or.inl ⟨by rfl, ?_⟩) (by assumption) ?_
            rotate_left 1
            · (intro w hSw; (try dsimp only at hSw); go_simp; try with_reducible rfl)
            try simp only [Act.put, List.setIfInBounds_toArray, List.set_cons_zero, List.set_cons_succ]
            refine wpAnyH_take (i := 10) (oi := { dst := some 110, op := Go.Op.move (Go.Operand.tmp 109), type := 4, pos := "law.go:56", after := #[{ on := 9, ground := Go.Ground.data }, { on := 6, ground := Go.Ground.chain }], guard := none }) (v := ?_) rfl (by kernel_rfl) (by kernel_rfl) (by kernel_rfl) (fun _ _ _ h => h) (Or.inl ⟨by rfl, ?_⟩) (by assumption) ?_
            rotate_left 1
            · (intro w hSw; (try dsimp only at hSw); go_simp; try with_reducible rfl)
            try simp only [Act.put, List.setIfInBounds_toArray, List.set_cons_zero, List.set_cons_succ]
            refine wpAnyH_take (i := 11) (oi := { dst := some 111, op := Go.Op.fieldAddr 47 (Go.Operand.tmp 10) 0, type := 0, pos := "law.go:56", after := #[{ on := 10, ground := Go.Ground.guard }], guard := some (10, true) }) (v := ?_) rfl (by kernel_rfl) (by kernel_rfl) (by kernel_rfl) (fun _ _ _ h => h) (Or.inl ⟨by rfl, ?_⟩) (by assumption) ?_
            rotate_left 1
            · (intro w hSw; (try dsimp only at hSw); go_simp; try with_reducible rfl)
            try simp only [Act.put, List.setIfInBounds_toArray, List.set_cons_zero, List.set_cons_succ]
            refine wpAnyH_take (i := 12) (oi := { dst := some 112, op := Go.Op.load 22 (Go.Operand.tmp 111), type := 22, pos := "law.go:56", after := #[{ on := 11, ground := Go.Ground.data }, { on := 10, ground := Go.Ground.guard }], guard := some (10, true) }) (v := ?_) rfl (by kernel_rfl) (by kernel_rfl) (by kernel_rfl) (fun _ _ _ h => h) (Or.inl ⟨by rfl, ?_⟩) (by assumption) ?_
            rotate_left 1
            · (intro w hSw; (try dsimp only at hSw); go_simp; try with_reducible rfl)
            try simp only [Act.put, List.setIfInBounds_toArray, List.set_cons_zero, List.set_cons_succ]
            refine wpAnyH_take (i := 13) (oi := { dst := some 113, op := Go.Op.fieldAddr 45 (Go.Operand.tmp 2) 0, type := 0, pos := "law.go:56", after := #[{ on := 10, ground := Go.Ground.guard }], guard := some (10, true) }) (v := ?_) rfl (by kernel_rfl) (by kernel_rfl) (by kernel_rfl) (fun _ _ _ h => h) (Or.inl ⟨by rfl, ?_⟩) (by assumption) ?_
            rotate_left 1
            · (intro w hSw; (try dsimp only at hSw); go_simp; try with_reducible rfl)
            try simp only [Act.put, List.setIfInBounds_toArray, List.set_cons_zero, List.set_cons_succ]
            refine wpAnyH_take (i := 14) (oi := { dst := some 114, op := Go.Op.load 22 (Go.Operand.tmp 113), type := 22, pos := "law.go:56", after := #[{ on := 13, ground := Go.Ground.data }, { on := 10, ground := Go.Ground.guard }], guard := some (10, true) }) (v := ?_) rfl (by kernel_rfl) (by kernel_rfl) (by kernel_rfl) (fun _ _ _ h => h) (Or.inl ⟨by rfl, ?_⟩) (by assumption) ?_
            rotate_left 1
            · (intro w hSw; (try dsimp only at hSw); go_simp; try with_reducible rfl)
            try simp only [Act.put, List.setIfInBounds_toArray, List.set_cons_zero, List.set_cons_succ]
            refine wpAnyH_take (i := 15) (oi := { dst := some 115, op := Go.Op.binOp Go.BinOp.eql 22 (Go.Operand.tmp 112) (Go.Operand.tmp 114) 22, type := 4, pos := "law.go:56", after := #[{ on := 12, ground := Go.Ground.data }, { on := 14, ground := Go.Ground.data }, { on := 10, ground := Go.Ground.guard }], guard := some (10, true) }) (v := ?_) rfl (by kernel_rfl) (by kernel_rfl) (by kernel_rfl) (fun _ _ _ h => h) (Or.inl ⟨by rfl, ?_⟩) (by assumption) ?_
            rotate_left 1
            · (intro w hSw; (try dsimp only at hSw); go_simp; try with_reducible rfl)
            try simp only [Act.put, List.setIfInBounds_toArray, List.set_cons_zero, List.set_cons_succ]
            refine wpAnyH_take (i := 16) (oi := { dst := some 116, op := Go.Op.pick (Go.Operand.tmp 110) (Go.Operand.tmp 115) (Go.Operand.const (Go.Value.bool false)), type := 4, pos := "law.go:56", after := #[{ on := 10, ground := Go.Ground.data }, { on := 15, ground := Go.Ground.data }], guard := none }) (v := ?_) rfl (by kernel_rfl) (by kernel_rfl) (by kernel_rfl) (fun _ _ _ h => h) (Or.inl ⟨by rfl, ?_⟩) (by assumption) ?_
            rotate_left 1
            · (intro w hSw; (try dsimp only at hSw); go_simp; try with_reducible rfl)
            try simp only [Act.put, List.setIfInBounds_toArray, List.set_cons_zero, List.set_cons_succ]
            refine wpAnyH_take (i := 17) (oi := { dst := some 117, op := Go.Op.move (Go.Operand.tmp 116), type := 4, pos := "law.go:56", after := #[{ on := 16, ground := Go.Ground.data }, { on := 10, ground := Go.Ground.chain }], guard := none }) (v := ?_) rfl (by kernel_rfl) (by kernel_rfl) (by kernel_rfl) (fun _ _ _ h => h) (Or.inl ⟨by rfl, ?_⟩) (by assumption) ?_
            rotate_left 1
            · (intro w hSw; (try dsimp only at hSw); go_simp; try with_reducible rfl)
            try simp only [Act.put, List.setIfInBounds_toArray, List.set_cons_zero, List.set_cons_succ]
            refine wpAnyH_take (i := 18) (oi := { dst := some 118, op := Go.Op.fieldAddr 47 (Go.Operand.tmp 10) 1, type := 0, pos := "law.go:56", after := #[{ on := 17, ground := Go.Ground.guard }], guard := some (17, true) }) (v := ?_) rfl (by kernel_rfl) (by kernel_rfl) (by kernel_rfl) (fun _ _ _ h => h) (Or.inl ⟨by rfl, ?_⟩) (by assumption) ?_
            rotate_left 1
            · (intro w hSw; (try dsimp only at hSw); go_simp; try with_reducible rfl)
            try simp only [Act.put, List.setIfInBounds_toArray, List.set_cons_zero, List.set_cons_succ]
            refine wpAnyH_take (i := 19) (oi := { dst := some 119, op := Go.Op.load 32 (Go.Operand.tmp 118), type := 32, pos := "law.go:56", after := #[{ on := 18, ground := Go.Ground.data }, { on := 17, ground := Go.Ground.guard }], guard := some (17, true) }) (v := ?_) rfl (by kernel_rfl) (by kernel_rfl) (by kernel_rfl) (fun _ _ _ h => h) (Or.inl ⟨by rfl, ?_⟩) (by assumption) ?_
            rotate_left 1
            · (intro w hSw; (try dsimp only at hSw); go_simp; try with_reducible rfl)
            try simp only [Act.put, List.setIfInBounds_toArray, List.set_cons_zero, List.set_cons_succ]
            refine wpAnyH_take (i := 20) (oi := { dst := some 120, op := Go.Op.fieldAddr 45 (Go.Operand.tmp 2) 1, type := 0, pos := "law.go:56", after := #[{ on := 17, ground := Go.Ground.guard }], guard := some (17, true) }) (v := ?_) rfl (by kernel_rfl) (by kernel_rfl) (by kernel_rfl) (fun _ _ _ h => h) (Or.inl ⟨by rfl, ?_⟩) (by assumption) ?_
            rotate_left 1
            · (intro w hSw; (try dsimp only at hSw); go_simp; try with_reducible rfl)
            try simp only [Act.put, List.setIfInBounds_toArray, List.set_cons_zero, List.set_cons_succ]
            refine wpAnyH_take (i := 21) (oi := { dst := some 121, op := Go.Op.load 3 (Go.Operand.tmp 120), type := 3, pos := "law.go:56", after := #[{ on := 20, ground := Go.Ground.data }, { on := 17, ground := Go.Ground.guard }], guard := some (17, true) }) (v := ?_) rfl (by kernel_rfl) (by kernel_rfl) (by kernel_rfl) (fun _ _ _ h => h) (Or.inl ⟨by rfl, ?_⟩) (by assumption) ?_
            rotate_left 1
            · (intro w hSw; (try dsimp only at hSw); go_simp; try with_reducible rfl)
            try simp only [Act.put, List.setIfInBounds_toArray, List.set_cons_zero, List.set_cons_succ]
            refine wpAnyH_take (i := 22) (oi := { dst := some 122, op := Go.Op.binOp Go.BinOp.eql 3 (Go.Operand.tmp 119) (Go.Operand.tmp 121) 3, type := 4, pos := "law.go:56", after := #[{ on := 19, ground := Go.Ground.data }, { on := 21, ground := Go.Ground.data }, { on := 17, ground := Go.Ground.guard }], guard := some (17, true) }) (v := ?_) rfl (by kernel_rfl) (by kernel_rfl) (by kernel_rfl) (fun _ _ _ h => h) (Or.inl ⟨by rfl, ?_⟩) (by assumption) ?_
            rotate_left 1
            · (intro w hSw; (try dsimp only at hSw); go_simp; try with_reducible rfl)
            try simp only [Act.put, List.setIfInBounds_toArray, List.set_cons_zero, List.set_cons_succ]
            refine wpAnyH_take (i := 23) (oi := { dst := some 123, op := Go.Op.pick (Go.Operand.tmp 117) (Go.Operand.tmp 122) (Go.Operand.const (Go.Value.bool false)), type := 4, pos := "law.go:56", after := #[{ on := 17, ground := Go.Ground.data }, { on := 22, ground := Go.Ground.data }], guard := none }) (v := ?_) rfl (by kernel_rfl) (by kernel_rfl) (by kernel_rfl) (fun _ _ _ h => h) (Or.inl ⟨by rfl, ?_⟩) (by assumption) ?_
            rotate_left 1
            · (intro w hSw; (try dsimp only at hSw); go_simp; try with_reducible rfl)
            try simp only [Act.put, List.setIfInBounds_toArray, List.set_cons_zero, List.set_cons_succ]
            refine wpAnyH_take (i := 24) (oi := { dst := some 124, op := Go.Op.move (Go.Operand.tmp 123), type := 4, pos := "law.go:56", after := #[{ on := 23, ground := Go.Ground.data }, { on := 17, ground := Go.Ground.chain }], guard := none }) (v := ?_) rfl (by kernel_rfl) (by kernel_rfl) (by kernel_rfl) (fun _ _ _ h => h) (Or.inl ⟨by rfl, ?_⟩) (by assumption) ?_
            rotate_left 1
            · (intro w hSw; (try dsimp only at hSw); go_simp; try with_reducible rfl)
            try simp only [Act.put, List.setIfInBounds_toArray, List.set_cons_zero, List.set_cons_succ]
            refine wpAnyH_take (i := 25) (oi := { dst := some 125, op := Go.Op.fieldAddr 47 (Go.Operand.tmp 10) 2, type := 0, pos := "law.go:56", after := #[{ on := 24, ground := Go.Ground.guard }], guard := some (24, true) }) (v := ?_) rfl (by kernel_rfl) (by kernel_rfl) (by kernel_rfl) (fun _ _ _ h => h) (Or.inl ⟨by rfl, ?_⟩) (by assumption) ?_
            rotate_left 1
            · (intro w hSw; (try dsimp only at hSw); go_simp; try with_reducible rfl)
            try simp only [Act.put, List.setIfInBounds_toArray, List.set_cons_zero, List.set_cons_succ]
            refine wpAnyH_take (i := 26) (oi := { dst := some 126, op := Go.Op.load 27 (Go.Operand.tmp 125), type := 27, pos := "law.go:56", after := #[{ on := 25, ground := Go.Ground.data }, { on := 24, ground := Go.Ground.guard }], guard := some (24, true) }) (v := ?_) rfl (by kernel_rfl) (by kernel_rfl) (by kernel_rfl) (fun _ _ _ h => h) (Or.inl ⟨by rfl, ?_⟩) (by assumption) ?_
            rotate_left 1
            · (intro w hSw; (try dsimp only at hSw); go_simp; try with_reducible rfl)
            try simp only [Act.put, List.setIfInBounds_toArray, List.set_cons_zero, List.set_cons_succ]
            refine wpAnyH_take (i := 27) (oi := { dst := some 127, op := Go.Op.convert 27 9 (Go.Operand.tmp 126), type := 9, pos := "law.go:56", after := #[{ on := 26, ground := Go.Ground.data }, { on := 24, ground := Go.Ground.guard }], guard := some (24, true) }) (v := ?_) rfl (by kernel_rfl) (by kernel_rfl) (by kernel_rfl) (fun _ _ _ h => h) (Or.inl ⟨by rfl, ?_⟩) (by assumption) ?_
            rotate_left 1
            · (intro w hSw; (try dsimp only at hSw); go_simp; try with_reducible rfl)
            try simp only [Act.put, List.setIfInBounds_toArray, List.set_cons_zero, List.set_cons_succ]
            refine wpAnyH_take (i := 28) (oi := { dst := some 128, op := Go.Op.fieldAddr 45 (Go.Operand.tmp 2) 2, type := 0, pos := "law.go:56", after := #[{ on := 24, ground := Go.Ground.guard }], guard := some (24, true) }) (v := ?_) rfl (by kernel_rfl) (by kernel_rfl) (by kernel_rfl) (fun _ _ _ h => h) (Or.inl ⟨by rfl, ?_⟩) (by assumption) ?_
            rotate_left 1
            · (intro w hSw; (try dsimp only at hSw); go_simp; try with_reducible rfl)
            try simp only [Act.put, List.setIfInBounds_toArray, List.set_cons_zero, List.set_cons_succ]
            refine wpAnyH_take (i := 29) (oi := { dst := some 129, op := Go.Op.load 27 (Go.Operand.tmp 128), type := 27, pos := "law.go:56", after := #[{ on := 28, ground := Go.Ground.data }, { on := 24, ground := Go.Ground.guard }], guard := some (24, true) }) (v := ?_) rfl (by kernel_rfl) (by kernel_rfl) (by kernel_rfl) (fun _ _ _ h => h) (Or.inl ⟨by rfl, ?_⟩) (by assumption) ?_
            rotate_left 1
            · (intro w hSw; (try dsimp only at hSw); go_simp; try with_reducible rfl)
            try simp only [Act.put, List.setIfInBounds_toArray, List.set_cons_zero, List.set_cons_succ]
            refine wpAnyH_take (i := 30) (oi := { dst := some 130, op := Go.Op.convert 27 9 (Go.Operand.tmp 129), type := 9, pos := "law.go:56", after := #[{ on := 29, ground := Go.Ground.data }, { on := 24, ground := Go.Ground.guard }], guard := some (24, true) }) (v := ?_) rfl (by kernel_rfl) (by kernel_rfl) (by kernel_rfl) (fun _ _ _ h => h) (Or.inl ⟨by rfl, ?_⟩) (by assumption) ?_
            rotate_left 1
            · (intro w hSw; (try dsimp only at hSw); go_simp; try with_reducible rfl)
            try simp only [Act.put, List.setIfInBounds_toArray, List.set_cons_zero, List.set_cons_succ]
            refine wpAnyH_take (i := 31) (oi := { dst := some 131, op := Go.Op.binOp Go.BinOp.eql 9 (Go.Operand.tmp 127) (Go.Operand.tmp 130) 9, type := 4, pos := "law.go:56", after := #[{ on := 27, ground := Go.Ground.data }, { on := 30, ground := Go.Ground.data }, { on := 24, ground := Go.Ground.guard }], guard := some (24, true) }) (v := ?_) rfl (by kernel_rfl) (by kernel_rfl) (by kernel_rfl) (fun _ _ _ h => h) (Or.inl ⟨by rfl, ?_⟩) (by assumption) ?_
            rotate_left 1
            · (intro w hSw; (try dsimp only at hSw); go_simp; try with_reducible rfl)
            try simp only [Act.put, List.setIfInBounds_toArray, List.set_cons_zero, List.set_cons_succ]
            refine wpAnyH_take (i := 32) (oi := { dst := some 132, op := Go.Op.pick (Go.Operand.tmp 124) (Go.Operand.tmp 131) (Go.Operand.const (Go.Value.bool false)), type := 4, pos := "law.go:56", after := #[{ on := 24, ground := Go.Ground.data }, { on := 31, ground := Go.Ground.data }], guard := none }) (v := ?_) rfl (by kernel_rfl) (by kernel_rfl) (by kernel_rfl) (fun _ _ _ h => h) (Or.inl ⟨by rfl, ?_⟩) (by assumption) ?_
            rotate_left 1
            · (intro w hSw; (try dsimp only at hSw); go_simp; try with_reducible rfl)
            try simp only [Act.put, List.setIfInBounds_toArray, List.set_cons_zero, List.set_cons_succ]
            refine wpAnyH_take (i := 33) (oi := { dst := some 133, op := Go.Op.move (Go.Operand.tmp 132), type := 4, pos := "law.go:56", after := #[{ on := 32, ground := Go.Ground.data }, { on := 24, ground := Go.Ground.chain }], guard := none }) (v := ?_) rfl (by kernel_rfl) (by kernel_rfl) (by kernel_rfl) (fun _ _ _ h => h) (Or.inl ⟨by rfl, ?_⟩) (by assumption) ?_
            rotate_left 1
            · (intro w hSw; (try dsimp only at hSw); go_simp; try with_reducible rfl)
            try simp only [Act.put, List.setIfInBounds_toArray, List.set_cons_zero, List.set_cons_succ]
            refine wpAnyH_ready (rs := [34]) (by kernel_rfl) (by simp) ?_
            refine AllReadyH.cons (o := { dst := some 134, op := Go.Op.call { callee := Go.Callee.value (Go.Operand.func 5), args := #[], argTypes := #[] }, type := 4, pos := "law.go:56", after := #[{ on := 33, ground := Go.Ground.chain }, { on := 33, ground := Go.Ground.guard }], guard := some (33, true) }) rfl (fun K hK => ?_) AllReadyH.nil
            go_simp
            go_at_call 5
            (refine (awake_calls _).mono ?_); rintro x v7 ⟨rfl, hb⟩
            replace HB8 := Lib.hid (HB8.out.trans (hb.mono HB8.out.size))
            clear hb
            clear hHeld
            refine hK.out _ _ ?_ (fun hHeld => ?_)
            · ((try dsimp only); exact S8.out _ HB8.out)
            clear hK K
            refine wpAnyH_take (i := 35) (oi := { dst := some 135, op := Go.Op.pick (Go.Operand.tmp 133) (Go.Operand.tmp 134) (Go.Operand.const (Go.Value.bool false)), type := 4, pos := "law.go:56", after := #[{ on := 33, ground := Go.Ground.data }, { on := 34, ground := Go.Ground.data }], guard := none }) (v := ?_) rfl (by kernel_rfl) (by kernel_rfl) (by kernel_rfl) (fun _ _ _ h => h) (Or.inl ⟨by rfl, ?_⟩) (by assumption) ?_
            rotate_left 1
            · (intro w hSw; (try dsimp only at hSw); go_simp; try with_reducible rfl)
            try simp only [Act.put, List.setIfInBounds_toArray, List.set_cons_zero, List.set_cons_succ]
            refine wpAnyH_take (i := 36) (oi := { dst := some 4, op := Go.Op.assign (Go.Operand.tmp 135), type := 4, pos := "law.go:56", after := #[{ on := 35, ground := Go.Ground.data }, { on := 34, ground := Go.Ground.chain }, { on := 0, ground := Go.Ground.phase }, { on := 1, ground := Go.Ground.phase }, { on := 2, ground := Go.Ground.phase }, { on := 3, ground := Go.Ground.phase }, { on := 4, ground := Go.Ground.phase }, { on := 5, ground := Go.Ground.phase }, { on := 6, ground := Go.Ground.phase }, { on := 7, ground := Go.Ground.phase }, { on := 8, ground := Go.Ground.phase }, { on := 9, ground := Go.Ground.phase }, { on := 10, ground := Go.Ground.phase }, { on := 11, ground := Go.Ground.phase }, { on := 12, ground := Go.Ground.phase }, { on := 13, ground := Go.Ground.phase }, { on := 14, ground := Go.Ground.phase }, { on := 15, ground := Go.Ground.phase }, { on := 16, ground := Go.Ground.phase }, { on := 17, ground := Go.Ground.phase }, { on := 18, ground := Go.Ground.phase }, { on := 19, ground := Go.Ground.phase }, { on := 20, ground := Go.Ground.phase }, { on := 21, ground := Go.Ground.phase }, { on := 22, ground := Go.Ground.phase }, { on := 23, ground := Go.Ground.phase }, { on := 24, ground := Go.Ground.phase }, { on := 25, ground := Go.Ground.phase }, { on := 26, ground := Go.Ground.phase }, { on := 27, ground := Go.Ground.phase }, { on := 28, ground := Go.Ground.phase }, { on := 29, ground := Go.Ground.phase }, { on := 30, ground := Go.Ground.phase }, { on := 31, ground := Go.Ground.phase }, { on := 32, ground := Go.Ground.phase }, { on := 33, ground := Go.Ground.phase }, { on := 34, ground := Go.Ground.phase }, { on := 35, ground := Go.Ground.phase }], guard := none }) (v := ?_) rfl (by kernel_rfl) (by kernel_rfl) (by kernel_rfl) (fun _ _ _ h => h) (Or.inl ⟨by rfl, ?_⟩) (by assumption) ?_
            rotate_left 1
            · (intro w hSw; (try dsimp only at hSw); go_simp; try with_reducible rfl)
            try simp only [Act.put, List.setIfInBounds_toArray, List.set_cons_zero, List.set_cons_succ]
            refine wpAnyH_done (by kernel_rfl) ?_ _
            refine NoPanic.normal ?_
            go_wp2
            go_ret
            exact ⟨rfl, HBW.out.trans (HB8.out.mono HBW.out.size)⟩
          · have b4 : decide ((m0 : Int) > 0) = false := by simp [hz]
            have b6 : ¬ (0 : Int) < (m0 : Int) := by omega
            have HZ0 := Lib.hid hz
            clear hz
            by_cases he0 : e = 0
            · have b3 : ((e : Int) != 0) = false := by simp [he0]
              clear he0
              go_upto_region 10 with (go_at_call 18; (with_reducible refine (CY.out _ HB5.out).mono ?_); rintro x v2 ⟨A6, m6, c6, hm6, rfl, ho6, hb⟩; have HM6 := Lib.hid hm6; have HO6 := Lib.hid ho6; have HB12 := Lib.hid hb; clear hb hm6 ho6)
              have CP := Lib.hid (CBB.out.2.2.2.1 A6 c6 v2 v2 (Below.refl _ _) (Kd.C_of_reads (d := (0 : Int)) (by rw [← HM6.out]; exact own_reads' HO6.out)) (by rw [← HM6.out]; exact own_le HO6.out))
              rw [← HM6.out] at CP
              go_upto_region 11 with (go_at_call 16; (with_reducible refine CP.out.mono ?_); rintro x v4 ⟨A8, m8, c8, hm8, hc8, rfl, hr8, hb⟩; have HM8 := Lib.hid hm8; have HC8 := Lib.hid hc8; have HR8 := Lib.hid hr8; have HB14 := Lib.hid (HB12.out.trans (hb.mono HB12.out.size)); have HO8 := Lib.hid (pw_own_below HO6.out hb); clear hb hm8 hc8 hr8)
              obtain ⟨W8, hW8⟩ : ∃ W8, W8 = v4.alloc (.cells #[.int .u64 n, .int .i64 e, .slice A8 m8 c8] 47) := ⟨_, rfl⟩
              obtain ⟨V0, hV0⟩ : ∃ V0, V0 = v4.heap.size := ⟨_, rfl⟩
              have hb3 : Below v4.heap.size v4 W8 := by rw [hW8]; exact (Below.refl _ _).alloc (Nat.le_refl _) _
              have HV8 := Lib.hid (show Blk W8 V0 47 #[.int .u64 n, .int .i64 e, .slice A8 m8 c8] by rw [hW8, hV0]; exact Blk.new _ _ _)
              have HB15 := Lib.hid (HB14.out.trans (hb3.mono HB14.out.size))
              have HQ8 := Lib.hid (Blk.below HQ5.out HB15.out (Blk.lt HQ5.out))
              have HR9 := Lib.hid (Kd.C_below HR8.out hb3)
              have HO9 := Lib.hid (pw_own_below HO8.out hb3)
              rw [← hW8, ← hV0]
              clear hW8 hV0 hb3
              have HBW := Lib.hid (show Below w.heap.size w W8 from HB5.out.trans (HB15.out.mono HB5.out.size))
              have S8 := Lib.hid (fun W (hB : Below W8.heap.size W8 W) => show ((W.cell? ⟨Q0, 0, none⟩ = some (.int .u64 n) ∧ W.cell? ⟨Q0, 1, none⟩ = some (.int .i64 e) ∧ W.cell? ⟨Q0, 2, none⟩ = some (.slice A0 m0 c0)) ∧ (W.cell? ⟨V0, 0, none⟩ = some (.int .u64 n) ∧ W.cell? ⟨V0, 1, none⟩ = some (.int .i64 e) ∧ W.cell? ⟨V0, 2, none⟩ = some (.slice A8 m8 c8)) ∧ (convert 27 9 (.slice A6 m6 c6)).run Try.prog W = .ok (.string (strOfNums (leB n 8 ++ (leB e 1 ++ data)))) W ∧ (convert 27 9 (.slice A8 m8 c8)).run Try.prog W = .ok (.string (strOfNums data)) W ∧ (convert 27 9 (.slice A0 m0 c0)).run Try.prog W = .ok (.string (strOfNums data)) W) from ⟨(blk3 (Blk.below HQ8.out hB (Blk.lt HQ8.out))).1, (blk3 (Blk.below HV8.out hB (Blk.lt HV8.out))).1, str_reads (own_reads' (pw_own_below HO9.out hB)), str_reads (Kd.reads_of_C (d := (0 : Int)) (Kd.C_below HR9.out hB)), str_reads (Kd.reads_of_C (d := (0 : Int)) (Kd.C_below HR0.out (HBW.out.trans (hB.mono HBW.out.size))))⟩)
              have HB8 := Lib.hid (show Below W8.heap.size W8 W8.drew from (Below.refl _ _).drew)
              refine wp_region_noPanic ?_
              refine wp_region_held_drew (S := (fun W => ((W.cell? ⟨Q0, 0, none⟩ = some (.int .u64 n) ∧ W.cell? ⟨Q0, 1, none⟩ = some (.int .i64 e) ∧ W.cell? ⟨Q0, 2, none⟩ = some (.slice A0 m0 c0)) ∧ (W.cell? ⟨V0, 0, none⟩ = some (.int .u64 n) ∧ W.cell? ⟨V0, 1, none⟩ = some (.int .i64 e) ∧ W.cell? ⟨V0, 2, none⟩ = some (.slice A8 m8 c8)) ∧ (convert 27 9 (.slice A6 m6 c6)).run Try.prog W = .ok (.string (strOfNums (leB n 8 ++ (leB e 1 ++ data)))) W ∧ (convert 27 9 (.slice A8 m8 c8)).run Try.prog W = .ok (.string (strOfNums data)) W ∧ (convert 27 9 (.slice A0 m0 c0)).run Try.prog W = .ok (.string (strOfNums data)) W))) (by kernel_rfl) ?_ (fun hHeld => ?_)
              · ((try dsimp only); exact S8.out _ HB8.out)
              refine wpAnyH_take (i := 0) (oi := { dst := some 100, op := Go.Op.move (Go.Operand.tmp 9), type := 27, pos := "law.go:56", after := #[], guard := none }) (v := ?_) rfl (by kernel_rfl) (by kernel_rfl) (by kernel_rfl) (fun _ _ _ h => h) (Or.inl ⟨by rfl, ?_⟩) (by assumption) ?_
              rotate_left 1
              · (intro w hSw; (try dsimp only at hSw); go_simp; try with_reducible rfl)
              try simp only [Act.put, List.setIfInBounds_toArray, List.set_cons_zero, List.set_cons_succ]
              refine wpAnyH_take (i := 1) (oi := { dst := some 101, op := Go.Op.convert 27 9 (Go.Operand.tmp 100), type := 9, pos := "law.go:56", after := #[{ on := 0, ground := Go.Ground.data }], guard := none }) (v := ?_) rfl (by kernel_rfl) (by kernel_rfl) (by kernel_rfl) (fun _ _ _ h => h) (Or.inl ⟨by rfl, ?_⟩) (by assumption) ?_
              rotate_left 1
              · (intro w hSw; (try dsimp only at hSw); go_simp; try with_reducible rfl)
              try simp only [Act.put, List.setIfInBounds_toArray, List.set_cons_zero, List.set_cons_succ]
              refine wpAnyH_take (i := 2) (oi := { dst := some 102, op := Go.Op.load 45 (Go.Operand.tmp 2), type := 45, pos := "law.go:56", after := #[], guard := none }) (v := ?_) rfl (by kernel_rfl) (by kernel_rfl) (by kernel_rfl) (fun _ _ _ h => h) (Or.inl ⟨by rfl, ?_⟩) (by assumption) ?_
              rotate_left 1
              · (intro w hSw; (try dsimp only at hSw); go_simp; try with_reducible rfl)
              try simp only [Act.put, List.setIfInBounds_toArray, List.set_cons_zero, List.set_cons_succ]
              refine wpAnyH_ready (rs := [3]) (by kernel_rfl) (by simp) ?_
              refine AllReadyH.cons (o := { dst := some 103, op := Go.Op.call { callee := Go.Callee.value (Go.Operand.func 19), args := #[Go.Operand.tmp 102], argTypes := #[45] }, type := 27, pos := "law.go:56", after := #[{ on := 2, ground := Go.Ground.data }], guard := none }) rfl (fun K hK => ?_) AllReadyH.nil
              go_simp
              go_at_call 19
              (refine (CZ.out _ (HBW.out.trans (HB8.out.mono HBW.out.size))).mono ?_); rintro x v5 ⟨A9, m9, c9, hm9, rfl, hr9, hb⟩
              clear hm9
              have k9 := str_reads (c := c9) hr9
              replace HB8 := Lib.hid (HB8.out.trans (hb.mono HB8.out.size))
              clear hb
              clear hHeld
              refine hK.out _ _ ?_ (fun hHeld => ?_)
              · ((try dsimp only); exact S8.out _ HB8.out)
              clear hK K
              refine wpAnyH_ready (rs := [4]) (by kernel_rfl) (by simp) ?_
              refine AllReadyH.cons (o := { dst := some 104, op := Go.Op.convert 27 9 (Go.Operand.tmp 103), type := 9, pos := "law.go:56", after := #[{ on := 3, ground := Go.Ground.data }], guard := none }) rfl (fun K hK => ?_) AllReadyH.nil
              go_simp
              clear hHeld
              refine hK.out _ _ ?_ (fun hHeld => ?_)
              · ((try dsimp only); exact S8.out _ HB8.out)
              clear hK K
              refine wpAnyH_take (i := 5) (oi := { dst := some 105, op := Go.Op.binOp Go.BinOp.eql 9 (Go.Operand.tmp 101) (Go.Operand.tmp 104) 9, type := 4, pos := "law.go:56", after := #[{ on := 1, ground := Go.Ground.data }, { on := 4, ground := Go.Ground.data }], guard := none }) (v := ?_) rfl (by kernel_rfl) (by kernel_rfl) (by kernel_rfl) (fun _ _ _ h => h) (Or.inl ⟨by rfl, ?_⟩) (by assumption) ?_
              rotate_left 1
              · (intro w hSw; (try dsimp only at hSw); go_simp; try with_reducible rfl)
              try simp only [Act.put, List.setIfInBounds_toArray, List.set_cons_zero, List.set_cons_succ]
              refine wpAnyH_take (i := 6) (oi := { dst := some 106, op := Go.Op.move (Go.Operand.tmp 105), type := 4, pos := "law.go:56", after := #[{ on := 5, ground := Go.Ground.data }, { on := 3, ground := Go.Ground.chain }], guard := none }) (v := ?_) rfl (by kernel_rfl) (by kernel_rfl) (by kernel_rfl) (fun _ _ _ h => h) (Or.inl ⟨by rfl, ?_⟩) (by assumption) ?_
              rotate_left 1
              · (intro w hSw; (try dsimp only at hSw); go_simp; try with_reducible rfl)
              try simp only [Act.put, List.setIfInBounds_toArray, List.set_cons_zero, List.set_cons_succ]
              refine wpAnyH_take (i := 7) (oi := { dst := some 107, op := Go.Op.move (Go.Operand.tmp 11), type := 32, pos := "law.go:56", after := #[{ on := 6, ground := Go.Ground.guard }], guard := some (6, true) }) (v := ?_) rfl (by kernel_rfl) (by kernel_rfl) (by kernel_rfl) (fun _ _ _ h => h) (Or.inl ⟨by rfl, ?_⟩) (by assumption) ?_
              rotate_left 1
              · (intro w hSw; (try dsimp only at hSw); go_simp; try with_reducible rfl)
              try simp only [Act.put, List.setIfInBounds_toArray, List.set_cons_zero, List.set_cons_succ]
              refine wpAnyH_take (i := 8) (oi := { dst := some 108, op := Go.Op.binOp Go.BinOp.eql 32 (Go.Operand.tmp 107) (Go.Operand.const (Go.Value.int Go.IntKind.i64 0)) 32, type := 4, pos := "law.go:56", after := #[{ on := 7, ground := Go.Ground.data }, { on := 6, ground := Go.Ground.guard }], guard := some (6, true) }) (v := ?_) rfl (by kernel_rfl) (by kernel_rfl) (by kernel_rfl) (fun _ _ _ h => h) (Or.inl ⟨by rfl, ?_⟩) (by assumption) ?_
              rotate_left 1
              · (intro w hSw; (try dsimp only at hSw); go_simp; try with_reducible rfl)
              try simp only [Act.put, List.setIfInBounds_toArray, List.set_cons_zero, List.set_cons_succ]
              refine wpAnyH_take (i := 9) (oi := { dst := some 109, op := Go.Op.pick (Go.Operand.tmp 106) (Go.Operand.tmp 108) (Go.Operand.const (Go.Value.bool false)), type := 4, pos := "law.go:56", after := #[{ on := 6, ground := Go.Ground.data }, { on := 8, ground := Go.Ground.data }], guard := none }) (v := ?_) rfl (by kernel_rfl) (by kernel_rfl) (by kernel_rfl) (fun _ _ _ h => h) (Or.inl ⟨by rfl, ?_⟩) (by assumption) ?_
              rotate_left 1
              · (intro w hSw; (try dsimp only at hSw); go_simp; try with_reducible rfl)
              try simp only [Act.put, List.setIfInBounds_toArray, List.set_cons_zero, List.set_cons_succ]
              refine wpAnyH_take (i := 10) (oi := { dst := some 110, op := Go.Op.move (Go.Operand.tmp 109), type := 4, pos := "law.go:56", after := #[{ on := 9, ground := Go.Ground.data }, { on := 6, ground := Go.Ground.chain }], guard := none }) (v := ?_) rfl (by kernel_rfl) (by kernel_rfl) (by kernel_rfl) (fun _ _ _ h => h) (Or.inl ⟨by rfl, ?_⟩) (by assumption) ?_
              rotate_left 1
              · (intro w hSw; (try dsimp only at hSw); go_simp; try with_reducible rfl)
              try simp only [Act.put, List.setIfInBounds_toArray, List.set_cons_zero, List.set_cons_succ]
              refine wpAnyH_take (i := 11) (oi := { dst := some 111, op := Go.Op.fieldAddr 47 (Go.Operand.tmp 10) 0, type := 0, pos := "law.go:56", after := #[{ on := 10, ground := Go.Ground.guard }], guard := some (10, true) }) (v := ?_) rfl (by kernel_rfl) (by kernel_rfl) (by kernel_rfl) (fun _ _ _ h => h) (Or.inl ⟨by rfl, ?_⟩) (by assumption) ?_
              rotate_left 1
              · (intro w hSw; (try dsimp only at hSw); go_simp; try with_reducible rfl)
              try simp only [Act.put, List.setIfInBounds_toArray, List.set_cons_zero, List.set_cons_succ]
              refine wpAnyH_take (i := 12) (oi := { dst := some 112, op := Go.Op.load 22 (Go.Operand.tmp 111), type := 22, pos := "law.go:56", after := #[{ on := 11, ground := Go.Ground.data }, { on := 10, ground := Go.Ground.guard }], guard := some (10, true) }) (v := ?_) rfl (by kernel_rfl) (by kernel_rfl) (by kernel_rfl) (fun _ _ _ h => h) (Or.inl ⟨by rfl, ?_⟩) (by assumption) ?_
              rotate_left 1
              · (intro w hSw; (try dsimp only at hSw); go_simp; try with_reducible rfl)
              try simp only [Act.put, List.setIfInBounds_toArray, List.set_cons_zero, List.set_cons_succ]
              refine wpAnyH_take (i := 13) (oi := { dst := some 113, op := Go.Op.fieldAddr 45 (Go.Operand.tmp 2) 0, type := 0, pos := "law.go:56", after := #[{ on := 10, ground := Go.Ground.guard }], guard := some (10, true) }) (v := ?_) rfl (by kernel_rfl) (by kernel_rfl) (by kernel_rfl) (fun _ _ _ h => h) (Or.inl ⟨by rfl, ?_⟩) (by assumption) ?_
              rotate_left 1
              · (intro w hSw; (try dsimp only at hSw); go_simp; try with_reducible rfl)
              try simp only [Act.put, List.setIfInBounds_toArray, List.set_cons_zero, List.set_cons_succ]
              refine wpAnyH_take (i := 14) (oi := { dst := some 114, op := Go.Op.load 22 (Go.Operand.tmp 113), type := 22, pos := "law.go:56", after := #[{ on := 13, ground := Go.Ground.data }, { on := 10, ground := Go.Ground.guard }], guard := some (10, true) }) (v := ?_) rfl (by kernel_rfl) (by kernel_rfl) (by kernel_rfl) (fun _ _ _ h => h) (Or.inl ⟨by rfl, ?_⟩) (by assumption) ?_
              rotate_left 1
              · (intro w hSw; (try dsimp only at hSw); go_simp; try with_reducible rfl)
              try simp only [Act.put, List.setIfInBounds_toArray, List.set_cons_zero, List.set_cons_succ]
              refine wpAnyH_take (i := 15) (oi := { dst := some 115, op := Go.Op.binOp Go.BinOp.eql 22 (Go.Operand.tmp 112) (Go.Operand.tmp 114) 22, type := 4, pos := "law.go:56", after := #[{ on := 12, ground := Go.Ground.data }, { on := 14, ground := Go.Ground.data }, { on := 10, ground := Go.Ground.guard }], guard := some (10, true) }) (v := ?_) rfl (by kernel_rfl) (by kernel_rfl) (by kernel_rfl) (fun _ _ _ h => h) (Or.inl ⟨by rfl, ?_⟩) (by assumption) ?_
              rotate_left 1
              · (intro w hSw; (try dsimp only at hSw); go_simp; try with_reducible rfl)
              try simp only [Act.put, List.setIfInBounds_toArray, List.set_cons_zero, List.set_cons_succ]
              refine wpAnyH_take (i := 16) (oi := { dst := some 116, op := Go.Op.pick (Go.Operand.tmp 110) (Go.Operand.tmp 115) (Go.Operand.const (Go.Value.bool false)), type := 4, pos := "law.go:56", after := #[{ on := 10, ground := Go.Ground.data }, { on := 15, ground := Go.Ground.data }], guard := none }) (v := ?_) rfl (by kernel_rfl) (by kernel_rfl) (by kernel_rfl) (fun _ _ _ h => h) (Or.inl ⟨by rfl, ?_⟩) (by assumption) ?_
              rotate_left 1
              · (intro w hSw; (try dsimp only at hSw); go_simp; try with_reducible rfl)
              try simp only [Act.put, List.setIfInBounds_toArray, List.set_cons_zero, List.set_cons_succ]
              refine wpAnyH_take (i := 17) (oi := { dst := some 117, op := Go.Op.move (Go.Operand.tmp 116), type := 4, pos := "law.go:56", after := #[{ on := 16, ground := Go.Ground.data }, { on := 10, ground := Go.Ground.chain }], guard := none }) (v := ?_) rfl (by kernel_rfl) (by kernel_rfl) (by kernel_rfl) (fun _ _ _ h => h) (Or.inl ⟨by rfl, ?_⟩) (by assumption) ?_
              rotate_left 1
              · (intro w hSw; (try dsimp only at hSw); go_simp; try with_reducible rfl)
              try simp only [Act.put, List.setIfInBounds_toArray, List.set_cons_zero, List.set_cons_succ]
              refine wpAnyH_take (i := 18) (oi := { dst := some 118, op := Go.Op.fieldAddr 47 (Go.Operand.tmp 10) 1, type := 0, pos := "law.go:56", after := #[{ on := 17, ground := Go.Ground.guard }], guard := some (17, true) }) (v := ?_) rfl (by kernel_rfl) (by kernel_rfl) (by kernel_rfl) (fun _ _ _ h => h) (Or.inl ⟨by rfl, ?_⟩) (by assumption) ?_
              rotate_left 1
              · (intro w hSw; (try dsimp only at hSw); go_simp; try with_reducible rfl)
              try simp only [Act.put, List.setIfInBounds_toArray, List.set_cons_zero, List.set_cons_succ]
              refine wpAnyH_take (i := 19) (oi := { dst := some 119, op := Go.Op.load 32 (Go.Operand.tmp 118), type := 32, pos := "law.go:56", after := #[{ on := 18, ground := Go.Ground.data }, { on := 17, ground := Go.Ground.guard }], guard := some (17, true) }) (v := ?_) rfl (by kernel_rfl) (by kernel_rfl) (by kernel_rfl) (fun _ _ _ h => h) (Or.inl ⟨by rfl, ?_⟩) (by assumption) ?_
              rotate_left 1
              · (intro w hSw; (try dsimp only at hSw); go_simp; try with_reducible rfl)
              try simp only [Act.put, List.setIfInBounds_toArray, List.set_cons_zero, List.set_cons_succ]
              refine wpAnyH_take (i := 20) (oi := { dst := some 120, op := Go.Op.fieldAddr 45 (Go.Operand.tmp 2) 1, type := 0, pos := "law.go:56", after := #[{ on := 17, ground := Go.Ground.guard }], guard := some (17, true) }) (v := ?_) rfl (by kernel_rfl) (by kernel_rfl) (by kernel_rfl) (fun _ _ _ h => h) (Or.inl ⟨by rfl, ?_⟩) (by assumption) ?_
              rotate_left 1
              · (intro w hSw; (try dsimp only at hSw); go_simp; try with_reducible rfl)
              try simp only [Act.put, List.setIfInBounds_toArray, List.set_cons_zero, List.set_cons_succ]
              refine wpAnyH_take (i := 21) (oi := { dst := some 121, op := Go.Op.load 3 (Go.Operand.tmp 120), type := 3, pos := "law.go:56", after := #[{ on := 20, ground := Go.Ground.data }, { on := 17, ground := Go.Ground.guard }], guard := some (17, true) }) (v := ?_) rfl (by kernel_rfl) (by kernel_rfl) (by kernel_rfl) (fun _ _ _ h => h) (Or.inl ⟨by rfl, ?_⟩) (by assumption) ?_
              rotate_left 1
              · (intro w hSw; (try dsimp only at hSw); go_simp; try with_reducible rfl)
              try simp only [Act.put, List.setIfInBounds_toArray, List.set_cons_zero, List.set_cons_succ]
              refine wpAnyH_take (i := 22) (oi := { dst := some 122, op := Go.Op.binOp Go.BinOp.eql 3 (Go.Operand.tmp 119) (Go.Operand.tmp 121) 3, type := 4, pos := "law.go:56", after := #[{ on := 19, ground := Go.Ground.data }, { on := 21, ground := Go.Ground.data }, { on := 17, ground := Go.Ground.guard }], guard := some (17, true) }) (v := ?_) rfl (by kernel_rfl) (by kernel_rfl) (by kernel_rfl) (fun _ _ _ h => h) (Or.inl ⟨by rfl, ?_⟩) (by assumption) ?_
              rotate_left 1
              · (intro w hSw; (try dsimp only at hSw); go_simp; try with_reducible rfl)
              try simp only [Act.put, List.setIfInBounds_toArray, List.set_cons_zero, List.set_cons_succ]
              refine wpAnyH_take (i := 23) (oi := { dst := some 123, op := Go.Op.pick (Go.Operand.tmp 117) (Go.Operand.tmp 122) (Go.Operand.const (Go.Value.bool false)), type := 4, pos := "law.go:56", after := #[{ on := 17, ground := Go.Ground.data }, { on := 22, ground := Go.Ground.data }], guard := none }) (v := ?_) rfl (by kernel_rfl) (by kernel_rfl) (by kernel_rfl) (fun _ _ _ h => h) (Or.inl ⟨by rfl, ?_⟩) (by assumption) ?_
              rotate_left 1
              · (intro w hSw; (try dsimp only at hSw); go_simp; try with_reducible rfl)
              try simp only [Act.put, List.setIfInBounds_toArray, List.set_cons_zero, List.set_cons_succ]
              refine wpAnyH_take (i := 24) (oi := { dst := some 124, op := Go.Op.move (Go.Operand.tmp 123), type := 4, pos := "law.go:56", after := #[{ on := 23, ground := Go.Ground.data }, { on := 17, ground := Go.Ground.chain }], guard := none }) (v := ?_) rfl (by kernel_rfl) (by kernel_rfl) (by kernel_rfl) (fun _ _ _ h => h) (Or.inl ⟨by rfl, ?_⟩) (by assumption) ?_
              rotate_left 1
              · (intro w hSw; (try dsimp only at hSw); go_simp; try with_reducible rfl)
              try simp only [Act.put, List.setIfInBounds_toArray, List.set_cons_zero, List.set_cons_succ]
              refine wpAnyH_take (i := 25) (oi := { dst := some 125, op := Go.Op.fieldAddr 47 (Go.Operand.tmp 10) 2, type := 0, pos := "law.go:56", after := #[{ on := 24, ground := Go.Ground.guard }], guard := some (24, true) }) (v := ?_) rfl (by kernel_rfl) (by kernel_rfl) (by kernel_rfl) (fun _ _ _ h => h) (Or.inl ⟨by rfl, ?_⟩) (by assumption) ?_
              rotate_left 1
              · (intro w hSw; (try dsimp only at hSw); go_simp; try with_reducible rfl)
              try simp only [Act.put, List.setIfInBounds_toArray, List.set_cons_zero, List.set_cons_succ]
              refine wpAnyH_take (i := 26) (oi := { dst := some 126, op := Go.Op.load 27 (Go.Operand.tmp 125), type := 27, pos := "law.go:56", after := #[{ on := 25, ground := Go.Ground.data }, { on := 24, ground := Go.Ground.guard }], guard := some (24, true) }) (v := ?_) rfl (by kernel_rfl) (by kernel_rfl) (by kernel_rfl) (fun _ _ _ h => h) (Or.inl ⟨by rfl, ?_⟩) (by assumption) ?_
              rotate_left 1
              · (intro w hSw; (try dsimp only at hSw); go_simp; try with_reducible rfl)
              try simp only [Act.put, List.setIfInBounds_toArray, List.set_cons_zero, List.set_cons_succ]
              refine wpAnyH_take (i := 27) (oi := { dst := some 127, op := Go.Op.convert 27 9 (Go.Operand.tmp 126), type := 9, pos := "law.go:56", after := #[{ on := 26, ground := Go.Ground.data }, { on := 24, ground := Go.Ground.guard }], guard := some (24, true) }) (v := ?_) rfl (by kernel_rfl) (by kernel_rfl) (by kernel_rfl) (fun _ _ _ h => h) (Or.inl ⟨by rfl, ?_⟩) (by assumption) ?_
              rotate_left 1
              · (intro w hSw; (try dsimp only at hSw); go_simp; try with_reducible rfl)
              try simp only [Act.put, List.setIfInBounds_toArray, List.set_cons_zero, List.set_cons_succ]
              refine wpAnyH_take (i := 28) (oi := { dst := some 128, op := Go.Op.fieldAddr 45 (Go.Operand.tmp 2) 2, type := 0, pos := "law.go:56", after := #[{ on := 24, ground := Go.Ground.guard }], guard := some (24, true) }) (v := ?_) rfl (by kernel_rfl) (by kernel_rfl) (by kernel_rfl) (fun _ _ _ h => h) (Or.inl ⟨by rfl, ?_⟩) (by assumption) ?_
              rotate_left 1
              · (intro w hSw; (try dsimp only at hSw); go_simp; try with_reducible rfl)
              try simp only [Act.put, List.setIfInBounds_toArray, List.set_cons_zero, List.set_cons_succ]
              refine wpAnyH_take (i := 29) (oi := { dst := some 129, op := Go.Op.load 27 (Go.Operand.tmp 128), type := 27, pos := "law.go:56", after := #[{ on := 28, ground := Go.Ground.data }, { on := 24, ground := Go.Ground.guard }], guard := some (24, true) }) (v := ?_) rfl (by kernel_rfl) (by kernel_rfl) (by kernel_rfl) (fun _ _ _ h => h) (Or.inl ⟨by rfl, ?_⟩) (by assumption) ?_
              rotate_left 1
              · (intro w hSw; (try dsimp only at hSw); go_simp; try with_reducible rfl)
              try simp only [Act.put, List.setIfInBounds_toArray, List.set_cons_zero, List.set_cons_succ]
              refine wpAnyH_take (i := 30) (oi := { dst := some 130, op := Go.Op.convert 27 9 (Go.Operand.tmp 129), type := 9, pos := "law.go:56", after := #[{ on := 29, ground := Go.Ground.data }, { on := 24, ground := Go.Ground.guard }], guard := some (24, true) }) (v := ?_) rfl (by kernel_rfl) (by kernel_rfl) (by kernel_rfl) (fun _ _ _ h => h) (Or.inl ⟨by rfl, ?_⟩) (by assumption) ?_
              rotate_left 1
              · (intro w hSw; (try dsimp only at hSw); go_simp; try with_reducible rfl)
              try simp only [Act.put, List.setIfInBounds_toArray, List.set_cons_zero, List.set_cons_succ]
              refine wpAnyH_take (i := 31) (oi := { dst := some 131, op := Go.Op.binOp Go.BinOp.eql 9 (Go.Operand.tmp 127) (Go.Operand.tmp 130) 9, type := 4, pos := "law.go:56", after := #[{ on := 27, ground := Go.Ground.data }, { on := 30, ground := Go.Ground.data }, { on := 24, ground := Go.Ground.guard }], guard := some (24, true) }) (v := ?_) rfl (by kernel_rfl) (by kernel_rfl) (by kernel_rfl) (fun _ _ _ h => h) (Or.inl ⟨by rfl, ?_⟩) (by assumption) ?_
              rotate_left 1
              · (intro w hSw; (try dsimp only at hSw); go_simp; try with_reducible rfl)
              try simp only [Act.put, List.setIfInBounds_toArray, List.set_cons_zero, List.set_cons_succ]
              refine wpAnyH_take (i := 32) (oi := { dst := some 132, op := Go.Op.pick (Go.Operand.tmp 124) (Go.Operand.tmp 131) (Go.Operand.const (Go.Value.bool false)), type := 4, pos := "law.go:56", after := #[{ on := 24, ground := Go.Ground.data }, { on := 31, ground := Go.Ground.data }], guard := none }) (v := ?_) rfl (by kernel_rfl) (by kernel_rfl) (by kernel_rfl) (fun _ _ _ h => h) (Or.inl ⟨by rfl, ?_⟩) (by assumption) ?_
              rotate_left 1
              · (intro w hSw; (try dsimp only at hSw); go_simp; try with_reducible rfl)
              try simp only [Act.put, List.setIfInBounds_toArray, List.set_cons_zero, List.set_cons_succ]
              refine wpAnyH_take (i := 33) (oi := { dst := some 133, op := Go.Op.move (Go.Operand.tmp 132), type := 4, pos := "law.go:56", after := #[{ on := 32, ground := Go.Ground.data }, { on := 24, ground := Go.Ground.chain }], guard := none }) (v := ?_) rfl (by kernel_rfl) (by kernel_rfl) (by kernel_rfl) (fun _ _ _ h => h) (Or.inl ⟨by rfl, ?_⟩) (by assumption) ?_
              rotate_left 1
              · (intro w hSw; (try dsimp only at hSw); go_simp; try with_reducible rfl)
              try simp only [Act.put, List.setIfInBounds_toArray, List.set_cons_zero, List.set_cons_succ]
              refine wpAnyH_ready (rs := [34]) (by kernel_rfl) (by simp) ?_
              refine AllReadyH.cons (o := { dst := some 134, op := Go.Op.call { callee := Go.Callee.value (Go.Operand.func 5), args := #[], argTypes := #[] }, type := 4, pos := "law.go:56", after := #[{ on := 33, ground := Go.Ground.chain }, { on := 33, ground := Go.Ground.guard }], guard := some (33, true) }) rfl (fun K hK => ?_) AllReadyH.nil
              go_simp
              go_at_call 5
              (refine (awake_calls _).mono ?_); rintro x v7 ⟨rfl, hb⟩
              replace HB8 := Lib.hid (HB8.out.trans (hb.mono HB8.out.size))
              clear hb
              clear hHeld
              refine hK.out _ _ ?_ (fun hHeld => ?_)
              · ((try dsimp only); exact S8.out _ HB8.out)
              clear hK K
              refine wpAnyH_take (i := 35) (oi := { dst := some 135, op := Go.Op.pick (Go.Operand.tmp 133) (Go.Operand.tmp 134) (Go.Operand.const (Go.Value.bool false)), type := 4, pos := "law.go:56", after := #[{ on := 33, ground := Go.Ground.data }, { on := 34, ground := Go.Ground.data }], guard := none }) (v := ?_) rfl (by kernel_rfl) (by kernel_rfl) (by kernel_rfl) (fun _ _ _ h => h) (Or.inl ⟨by rfl, ?_⟩) (by assumption) ?_
              rotate_left 1
              · (intro w hSw; (try dsimp only at hSw); go_simp; try with_reducible rfl)
              try simp only [Act.put, List.setIfInBounds_toArray, List.set_cons_zero, List.set_cons_succ]
              refine wpAnyH_take (i := 36) (oi := { dst := some 4, op := Go.Op.assign (Go.Operand.tmp 135), type := 4, pos := "law.go:56", after := #[{ on := 35, ground := Go.Ground.data }, { on := 34, ground := Go.Ground.chain }, { on := 0, ground := Go.Ground.phase }, { on := 1, ground := Go.Ground.phase }, { on := 2, ground := Go.Ground.phase }, { on := 3, ground := Go.Ground.phase }, { on := 4, ground := Go.Ground.phase }, { on := 5, ground := Go.Ground.phase }, { on := 6, ground := Go.Ground.phase }, { on := 7, ground := Go.Ground.phase }, { on := 8, ground := Go.Ground.phase }, { on := 9, ground := Go.Ground.phase }, { on := 10, ground := Go.Ground.phase }, { on := 11, ground := Go.Ground.phase }, { on := 12, ground := Go.Ground.phase }, { on := 13, ground := Go.Ground.phase }, { on := 14, ground := Go.Ground.phase }, { on := 15, ground := Go.Ground.phase }, { on := 16, ground := Go.Ground.phase }, { on := 17, ground := Go.Ground.phase }, { on := 18, ground := Go.Ground.phase }, { on := 19, ground := Go.Ground.phase }, { on := 20, ground := Go.Ground.phase }, { on := 21, ground := Go.Ground.phase }, { on := 22, ground := Go.Ground.phase }, { on := 23, ground := Go.Ground.phase }, { on := 24, ground := Go.Ground.phase }, { on := 25, ground := Go.Ground.phase }, { on := 26, ground := Go.Ground.phase }, { on := 27, ground := Go.Ground.phase }, { on := 28, ground := Go.Ground.phase }, { on := 29, ground := Go.Ground.phase }, { on := 30, ground := Go.Ground.phase }, { on := 31, ground := Go.Ground.phase }, { on := 32, ground := Go.Ground.phase }, { on := 33, ground := Go.Ground.phase }, { on := 34, ground := Go.Ground.phase }, { on := 35, ground := Go.Ground.phase }], guard := none }) (v := ?_) rfl (by kernel_rfl) (by kernel_rfl) (by kernel_rfl) (fun _ _ _ h => h) (Or.inl ⟨by rfl, ?_⟩) (by assumption) ?_
              rotate_left 1
              · (intro w hSw; (try dsimp only at hSw); go_simp; try with_reducible rfl)
              try simp only [Act.put, List.setIfInBounds_toArray, List.set_cons_zero, List.set_cons_succ]
              refine wpAnyH_done (by kernel_rfl) ?_ _
              refine NoPanic.normal ?_
              go_wp2
              go_ret
              exact ⟨rfl, HBW.out.trans (HB8.out.mono HBW.out.size)⟩
            · have b3 : ((e : Int) != 0) = true := by simp; omega
              have b3' : ¬ (e : Int) = 0 := by omega
              clear he0
              go_upto_region 10 with (go_at_call 18; (with_reducible refine (CY.out _ HB5.out).mono ?_); rintro x v2 ⟨A6, m6, c6, hm6, rfl, ho6, hb⟩; have HM6 := Lib.hid hm6; have HO6 := Lib.hid ho6; have HB12 := Lib.hid hb; clear hb hm6 ho6)
              have CP := Lib.hid (CBB.out.2.2.2.1 A6 c6 v2 v2 (Below.refl _ _) (Kd.C_of_reads (d := (0 : Int)) (by rw [← HM6.out]; exact own_reads' HO6.out)) (by rw [← HM6.out]; exact own_le HO6.out))
              rw [← HM6.out] at CP
              go_upto_region 11 with (go_at_call 16; (with_reducible refine CP.out.mono ?_); rintro x v4 ⟨A8, m8, c8, hm8, hc8, rfl, hr8, hb⟩; have HM8 := Lib.hid hm8; have HC8 := Lib.hid hc8; have HR8 := Lib.hid hr8; have HB14 := Lib.hid (HB12.out.trans (hb.mono HB12.out.size)); have HO8 := Lib.hid (pw_own_below HO6.out hb); clear hb hm8 hc8 hr8)
              obtain ⟨W8, hW8⟩ : ∃ W8, W8 = v4.alloc (.cells #[.int .u64 n, .int .i64 e, .slice A8 m8 c8] 47) := ⟨_, rfl⟩
              obtain ⟨V0, hV0⟩ : ∃ V0, V0 = v4.heap.size := ⟨_, rfl⟩
              have hb3 : Below v4.heap.size v4 W8 := by rw [hW8]; exact (Below.refl _ _).alloc (Nat.le_refl _) _
              have HV8 := Lib.hid (show Blk W8 V0 47 #[.int .u64 n, .int .i64 e, .slice A8 m8 c8] by rw [hW8, hV0]; exact Blk.new _ _ _)
              have HB15 := Lib.hid (HB14.out.trans (hb3.mono HB14.out.size))
              have HQ8 := Lib.hid (Blk.below HQ5.out HB15.out (Blk.lt HQ5.out))
              have HR9 := Lib.hid (Kd.C_below HR8.out hb3)
              have HO9 := Lib.hid (pw_own_below HO8.out hb3)
              rw [← hW8, ← hV0]
              clear hW8 hV0 hb3
              have HBW := Lib.hid (show Below w.heap.size w W8 from HB5.out.trans (HB15.out.mono HB5.out.size))
              have S8 := Lib.hid (fun W (hB : Below W8.heap.size W8 W) => show ((W.cell? ⟨Q0, 0, none⟩ = some (.int .u64 n) ∧ W.cell? ⟨Q0, 1, none⟩ = some (.int .i64 e) ∧ W.cell? ⟨Q0, 2, none⟩ = some (.slice A0 m0 c0)) ∧ (W.cell? ⟨V0, 0, none⟩ = some (.int .u64 n) ∧ W.cell? ⟨V0, 1, none⟩ = some (.int .i64 e) ∧ W.cell? ⟨V0, 2, none⟩ = some (.slice A8 m8 c8)) ∧ (convert 27 9 (.slice A6 m6 c6)).run Try.prog W = .ok (.string (strOfNums (leB n 8 ++ (leB e 1 ++ data)))) W ∧ (convert 27 9 (.slice A8 m8 c8)).run Try.prog W = .ok (.string (strOfNums data)) W ∧ (convert 27 9 (.slice A0 m0 c0)).run Try.prog W = .ok (.string (strOfNums data)) W) from ⟨(blk3 (Blk.below HQ8.out hB (Blk.lt HQ8.out))).1, (blk3 (Blk.below HV8.out hB (Blk.lt HV8.out))).1, str_reads (own_reads' (pw_own_below HO9.out hB)), str_reads (Kd.reads_of_C (d := (0 : Int)) (Kd.C_below HR9.out hB)), str_reads (Kd.reads_of_C (d := (0 : Int)) (Kd.C_below HR0.out (HBW.out.trans (hB.mono HBW.out.size))))⟩)
              have HB8 := Lib.hid (show Below W8.heap.size W8 W8.drew from (Below.refl _ _).drew)
              refine wp_region_noPanic ?_
              refine wp_region_held_drew (S := (fun W => ((W.cell? ⟨Q0, 0, none⟩ = some (.int .u64 n) ∧ W.cell? ⟨Q0, 1, none⟩ = some (.int .i64 e) ∧ W.cell? ⟨Q0, 2, none⟩ = some (.slice A0 m0 c0)) ∧ (W.cell? ⟨V0, 0, none⟩ = some (.int .u64 n) ∧ W.cell? ⟨V0, 1, none⟩ = some (.int .i64 e) ∧ W.cell? ⟨V0, 2, none⟩ = some (.slice A8 m8 c8)) ∧ (convert 27 9 (.slice A6 m6 c6)).run Try.prog W = .ok (.string (strOfNums (leB n 8 ++ (leB e 1 ++ data)))) W ∧ (convert 27 9 (.slice A8 m8 c8)).run Try.prog W = .ok (.string (strOfNums data)) W ∧ (convert 27 9 (.slice A0 m0 c0)).run Try.prog W = .ok (.string (strOfNums data)) W))) (by kernel_rfl) ?_ (fun hHeld => ?_)
              · ((try dsimp only); exact S8.out _ HB8.out)
              refine wpAnyH_take (i := 0) (oi := { dst := some 100, op := Go.Op.move (Go.Operand.tmp 9), type := 27, pos := "law.go:56", after := #[], guard := none }) (v := ?_) rfl (by kernel_rfl) (by kernel_rfl) (by kernel_rfl) (fun _ _ _ h => h) (Or.inl ⟨by rfl, ?_⟩) (by assumption) ?_
              rotate_left 1
              · (intro w hSw; (try dsimp only at hSw); go_simp; try with_reducible rfl)
              try simp only [Act.put, List.setIfInBounds_toArray, List.set_cons_zero, List.set_cons_succ]
              refine wpAnyH_take (i := 1) (oi := { dst := some 101, op := Go.Op.convert 27 9 (Go.Operand.tmp 100), type := 9, pos := "law.go:56", after := #[{ on := 0, ground := Go.Ground.data }], guard := none }) (v := ?_) rfl (by kernel_rfl) (by kernel_rfl) (by kernel_rfl) (fun _ _ _ h => h) (Or.inl ⟨by rfl, ?_⟩) (by assumption) ?_
              rotate_left 1
              · (intro w hSw; (try dsimp only at hSw); go_simp; try with_reducible rfl)
              try simp only [Act.put, List.setIfInBounds_toArray, List.set_cons_zero, List.set_cons_succ]
              refine wpAnyH_take (i := 2) (oi := { dst := some 102, op := Go.Op.load 45 (Go.Operand.tmp 2), type := 45, pos := "law.go:56", after := #[], guard := none }) (v := ?_) rfl (by kernel_rfl) (by kernel_rfl) (by kernel_rfl) (fun _ _ _ h => h) (Or.inl ⟨by rfl, ?_⟩) (by assumption) ?_
              rotate_left 1
              · (intro w hSw; (try dsimp only at hSw); go_simp; try with_reducible rfl)
              try simp only [Act.put, List.setIfInBounds_toArray, List.set_cons_zero, List.set_cons_succ]
              refine wpAnyH_ready (rs := [3]) (by kernel_rfl) (by simp) ?_
              refine AllReadyH.cons (o := { dst := some 103, op := Go.Op.call { callee := Go.Callee.value (Go.Operand.func 19), args := #[Go.Operand.tmp 102], argTypes := #[45] }, type := 27, pos := "law.go:56", after := #[{ on := 2, ground := Go.Ground.data }], guard := none }) rfl (fun K hK => ?_) AllReadyH.nil
              go_simp
              go_at_call 19
              (refine (CZ.out _ (HBW.out.trans (HB8.out.mono HBW.out.size))).mono ?_); rintro x v5 ⟨A9, m9, c9, hm9, rfl, hr9, hb⟩
              clear hm9
              have k9 := str_reads (c := c9) hr9
              replace HB8 := Lib.hid (HB8.out.trans (hb.mono HB8.out.size))
              clear hb
              clear hHeld
              refine hK.out _ _ ?_ (fun hHeld => ?_)
              · ((try dsimp only); exact S8.out _ HB8.out)
              clear hK K
              refine wpAnyH_ready (rs := [4]) (by kernel_rfl) (by simp) ?_
              refine AllReadyH.cons (o := { dst := some 104, op := Go.Op.convert 27 9 (Go.Operand.tmp 103), type := 9, pos := "law.go:56", after := #[{ on := 3, ground := Go.Ground.data }], guard := none }) rfl (fun K hK => ?_) AllReadyH.nil
              go_simp
              clear hHeld
              refine hK.out _ _ ?_ (fun hHeld => ?_)
              · ((try dsimp only); exact S8.out _ HB8.out)
              clear hK K
              refine wpAnyH_take (i := 5) (oi := { dst := some 105, op := Go.Op.binOp Go.BinOp.eql 9 (Go.Operand.tmp 101) (Go.Operand.tmp 104) 9, type := 4, pos := "law.go:56", after := #[{ on := 1, ground := Go.Ground.data }, { on := 4, ground := Go.Ground.data }], guard := none }) (v := ?_) rfl (by kernel_rfl) (by kernel_rfl) (by kernel_rfl) (fun _ _ _ h => h) (Or.inl ⟨by rfl, ?_⟩) (by assumption) ?_
              rotate_left 1
              · (intro w hSw; (try dsimp only at hSw); go_simp; try with_reducible rfl)
              try simp only [Act.put, List.setIfInBounds_toArray, List.set_cons_zero, List.set_cons_succ]
              refine wpAnyH_take (i := 6) (oi := { dst := some 106, op := Go.Op.move (Go.Operand.tmp 105), type := 4, pos := "law.go:56", after := #[{ on := 5, ground := Go.Ground.data }, { on := 3, ground := Go.Ground.chain }], guard := none }) (v := ?_) rfl (by kernel_rfl) (by kernel_rfl) (by kernel_rfl) (fun _ _ _ h => h) (Or.inl ⟨by rfl, ?_⟩) (by assumption) ?_
              rotate_left 1
              · (intro w hSw; (try dsimp only at hSw); go_simp; try with_reducible rfl)
              try simp only [Act.put, List.setIfInBounds_toArray, List.set_cons_zero, List.set_cons_succ]
              refine wpAnyH_take (i := 7) (oi := { dst := some 107, op := Go.Op.move (Go.Operand.tmp 11), type := 32, pos := "law.go:56", after := #[{ on := 6, ground := Go.Ground.guard }], guard := some (6, true) }) (v := ?_) rfl (by kernel_rfl) (by kernel_rfl) (by kernel_rfl) (fun _ _ _ h => h) (Or.inl ⟨by rfl, ?_⟩) (by assumption) ?_
              rotate_left 1
              · (intro w hSw; (try dsimp only at hSw); go_simp; try with_reducible rfl)
              try simp only [Act.put, List.setIfInBounds_toArray, List.set_cons_zero, List.set_cons_succ]
              refine wpAnyH_take (i := 8) (oi := { dst := some 108, op := Go.Op.binOp Go.BinOp.eql 32 (Go.Operand.tmp 107) (Go.Operand.const (Go.Value.int Go.IntKind.i64 0)) 32, type := 4, pos := "law.go:56", after := #[{ on := 7, ground := Go.Ground.data }, { on := 6, ground := Go.Ground.guard }], guard := some (6, true) }) (v := ?_) rfl (by kernel_rfl) (by kernel_rfl) (by kernel_rfl) (fun _ _ _ h => h) (Or.inl ⟨by rfl, ?_⟩) (by assumption) ?_
              rotate_left 1
              · (intro w hSw; (try dsimp only at hSw); go_simp; try with_reducible rfl)
              try simp only [Act.put, List.setIfInBounds_toArray, List.set_cons_zero, List.set_cons_succ]
              refine wpAnyH_take (i := 9) (oi := { dst := some 109, op := Go.Op.pick (Go.Operand.tmp 106) (Go.Operand.tmp 108) (Go.Operand.const (Go.Value.bool false)), type := 4, pos := "law.go:56", after := #[{ on := 6, ground := Go.Ground.data }, { on := 8, ground := Go.Ground.data }], guard := none }) (v := ?_) rfl (by kernel_rfl) (by kernel_rfl) (by kernel_rfl) (fun _ _ _ h => h) (Or.inl ⟨by rfl, ?_⟩) (by assumption) ?_
              rotate_left 1
              · (intro w hSw; (try dsimp only at hSw); go_simp; try with_reducible rfl)
              try simp only [Act.put, List.setIfInBounds_toArray, List.set_cons_zero, List.set_cons_succ]
              refine wpAnyH_take (i := 10) (oi := { dst := some 110, op := Go.Op.move (Go.Operand.tmp 109), type := 4, pos := "law.go:56", after := #[{ on := 9, ground := Go.Ground.data }, { on := 6, ground := Go.Ground.chain }], guard := none }) (v := ?_) rfl (by kernel_rfl) (by kernel_rfl) (by kernel_rfl) (fun _ _ _ h => h) (Or.inl ⟨by rfl, ?_⟩) (by assumption) ?_
              rotate_left 1
              · (intro w hSw; (try dsimp only at hSw); go_simp; try with_reducible rfl)
              try simp only [Act.put, List.setIfInBounds_toArray, List.set_cons_zero, List.set_cons_succ]
              refine wpAnyH_take (i := 11) (oi := { dst := some 111, op := Go.Op.fieldAddr 47 (Go.Operand.tmp 10) 0, type := 0, pos := "law.go:56", after := #[{ on := 10, ground := Go.Ground.guard }], guard := some (10, true) }) (v := ?_) rfl (by kernel_rfl) (by kernel_rfl) (by kernel_rfl) (fun _ _ _ h => h) (Or.inl ⟨by rfl, ?_⟩) (by assumption) ?_
              rotate_left 1
              · (intro w hSw; (try dsimp only at hSw); go_simp; try with_reducible rfl)
              try simp only [Act.put, List.setIfInBounds_toArray, List.set_cons_zero, List.set_cons_succ]
              refine wpAnyH_take (i := 12) (oi := { dst := some 112, op := Go.Op.load 22 (Go.Operand.tmp 111), type := 22, pos := "law.go:56", after := #[{ on := 11, ground := Go.Ground.data }, { on := 10, ground := Go.Ground.guard }], guard := some (10, true) }) (v := ?_) rfl (by kernel_rfl) (by kernel_rfl) (by kernel_rfl) (fun _ _ _ h => h) (Or.inl ⟨by rfl, ?_⟩) (by assumption) ?_
              rotate_left 1
              · (intro w hSw; (try dsimp only at hSw); go_simp; try with_reducible rfl)
              try simp only [Act.put, List.setIfInBounds_toArray, List.set_cons_zero, List.set_cons_succ]
              refine wpAnyH_take (i := 13) (oi := { dst := some 113, op := Go.Op.fieldAddr 45 (Go.Operand.tmp 2) 0, type := 0, pos := "law.go:56", after := #[{ on := 10, ground := Go.Ground.guard }], guard := some (10, true) }) (v := ?_) rfl (by kernel_rfl) (by kernel_rfl) (by kernel_rfl) (fun _ _ _ h => h) (Or.inl ⟨by rfl, ?_⟩) (by assumption) ?_
              rotate_left 1
              · (intro w hSw; (try dsimp only at hSw); go_simp; try with_reducible rfl)
              try simp only [Act.put, List.setIfInBounds_toArray, List.set_cons_zero, List.set_cons_succ]
              refine wpAnyH_take (i := 14) (oi := { dst := some 114, op := Go.Op.load 22 (Go.Operand.tmp 113), type := 22, pos := "law.go:56", after := #[{ on := 13, ground := Go.Ground.data }, { on := 10, ground := Go.Ground.guard }], guard := some (10, true) }) (v := ?_) rfl (by kernel_rfl) (by kernel_rfl) (by kernel_rfl) (fun _ _ _ h => h) (Or.inl ⟨by rfl, ?_⟩) (by assumption) ?_
              rotate_left 1
              · (intro w hSw; (try dsimp only at hSw); go_simp; try with_reducible rfl)
              try simp only [Act.put, List.setIfInBounds_toArray, List.set_cons_zero, List.set_cons_succ]
              refine wpAnyH_take (i := 15) (oi := { dst := some 115, op := Go.Op.binOp Go.BinOp.eql 22 (Go.Operand.tmp 112) (Go.Operand.tmp 114) 22, type := 4, pos := "law.go:56", after := #[{ on := 12, ground := Go.Ground.data }, { on := 14, ground := Go.Ground.data }, { on := 10, ground := Go.Ground.guard }], guard := some (10, true) }) (v := ?_) rfl (by kernel_rfl) (by kernel_rfl) (by kernel_rfl) (fun _ _ _ h => h) (Or.inl ⟨by rfl, ?_⟩) (by assumption) ?_
              rotate_left 1
              · (intro w hSw; (try dsimp only at hSw); go_simp; try with_reducible rfl)
              try simp only [Act.put, List.setIfInBounds_toArray, List.set_cons_zero, List.set_cons_succ]
              refine wpAnyH_take (i := 16) (oi := { dst := some 116, op := Go.Op.pick (Go.Operand.tmp 110) (Go.Operand.tmp 115) (Go.Operand.const (Go.Value.bool false)), type := 4, pos := "law.go:56", after := #[{ on := 10, ground := Go.Ground.data }, { on := 15, ground := Go.Ground.data }], guard := none }) (v := ?_) rfl (by kernel_rfl) (by kernel_rfl) (by kernel_rfl) (fun _ _ _ h => h) (Or.inl ⟨by rfl, ?_⟩) (by assumption) ?_
              rotate_left 1
              · (intro w hSw; (try dsimp only at hSw); go_simp; try with_reducible rfl)
              try simp only [Act.put, List.setIfInBounds_toArray, List.set_cons_zero, List.set_cons_succ]
              refine wpAnyH_take (i := 17) (oi := { dst := some 117, op := Go.Op.move (Go.Operand.tmp 116), type := 4, pos := "law.go:56", after := #[{ on := 16, ground := Go.Ground.data }, { on := 10, ground := Go.Ground.chain }], guard := none }) (v := ?_) rfl (by kernel_rfl) (by kernel_rfl) (by kernel_rfl) (fun _ _ _ h => h) (Or.inl ⟨by rfl, ?_⟩) (by assumption) ?_
              rotate_left 1
              · (intro w hSw; (try dsimp only at hSw); go_simp; try with_reducible rfl)
              try simp only [Act.put, List.setIfInBounds_toArray, List.set_cons_zero, List.set_cons_succ]
              refine wpAnyH_take (i := 18) (oi := { dst := some 118, op := Go.Op.fieldAddr 47 (Go.Operand.tmp 10) 1, type := 0, pos := "law.go:56", after := #[{ on := 17, ground := Go.Ground.guard }], guard := some (17, true) }) (v := ?_) rfl (by kernel_rfl) (by kernel_rfl) (by kernel_rfl) (fun _ _ _ h => h) (Or.inl ⟨by rfl, ?_⟩) (by assumption) ?_
              rotate_left 1
              · (intro w hSw; (try dsimp only at hSw); go_simp; try with_reducible rfl)
              try simp only [Act.put, List.setIfInBounds_toArray, List.set_cons_zero, List.set_cons_succ]
              refine wpAnyH_take (i := 19) (oi := { dst := some 119, op := Go.Op.load 32 (Go.Operand.tmp 118), type := 32, pos := "law.go:56", after := #[{ on := 18, ground := Go.Ground.data }, { on := 17, ground := Go.Ground.guard }], guard := some (17, true) }) (v := ?_) rfl (by kernel_rfl) (by kernel_rfl) (by kernel_rfl) (fun _ _ _ h => h) (Or.inl ⟨by rfl, ?_⟩) (by assumption) ?_
              rotate_left 1
              · (intro w hSw; (try dsimp only at hSw); go_simp; try with_reducible rfl)
              try simp only [Act.put, List.setIfInBounds_toArray, List.set_cons_zero, List.set_cons_succ]
              refine wpAnyH_take (i := 20) (oi := { dst := some 120, op := Go.Op.fieldAddr 45 (Go.Operand.tmp 2) 1, type := 0, pos := "law.go:56", after := #[{ on := 17, ground := Go.Ground.guard }], guard := some (17, true) }) (v := ?_) rfl (by kernel_rfl) (by kernel_rfl) (by kernel_rfl) (fun _ _ _ h => h) (Or.inl ⟨by rfl, ?_⟩) (by assumption) ?_
              rotate_left 1
              · (intro w hSw; (try dsimp only at hSw); go_simp; try with_reducible rfl)
              try simp only [Act.put, List.setIfInBounds_toArray, List.set_cons_zero, List.set_cons_succ]
              refine wpAnyH_take (i := 21) (oi := { dst := some 121, op := Go.Op.load 3 (Go.Operand.tmp 120), type := 3, pos := "law.go:56", after := #[{ on := 20, ground := Go.Ground.data }, { on := 17, ground := Go.Ground.guard }], guard := some (17, true) }) (v := ?_) rfl (by kernel_rfl) (by kernel_rfl) (by kernel_rfl) (fun _ _ _ h => h) (Or.inl ⟨by rfl, ?_⟩) (by assumption) ?_
              rotate_left 1
              · (intro w hSw; (try dsimp only at hSw); go_simp; try with_reducible rfl)
              try simp only [Act.put, List.setIfInBounds_toArray, List.set_cons_zero, List.set_cons_succ]
              refine wpAnyH_take (i := 22) (oi := { dst := some 122, op := Go.Op.binOp Go.BinOp.eql 3 (Go.Operand.tmp 119) (Go.Operand.tmp 121) 3, type := 4, pos := "law.go:56", after := #[{ on := 19, ground := Go.Ground.data }, { on := 21, ground := Go.Ground.data }, { on := 17, ground := Go.Ground.guard }], guard := some (17, true) }) (v := ?_) rfl (by kernel_rfl) (by kernel_rfl) (by kernel_rfl) (fun _ _ _ h => h) (Or.inl ⟨by rfl, ?_⟩) (by assumption) ?_
              rotate_left 1
              · (intro w hSw; (try dsimp only at hSw); go_simp; try with_reducible rfl)
              try simp only [Act.put, List.setIfInBounds_toArray, List.set_cons_zero, List.set_cons_succ]
              refine wpAnyH_take (i := 23) (oi := { dst := some 123, op := Go.Op.pick (Go.Operand.tmp 117) (Go.Operand.tmp 122) (Go.Operand.const (Go.Value.bool false)), type := 4, pos := "law.go:56", after := #[{ on := 17, ground := Go.Ground.data }, { on := 22, ground := Go.Ground.data }], guard := none }) (v := ?_) rfl (by kernel_rfl) (by kernel_rfl) (by kernel_rfl) (fun _ _ _ h => h) (Or.inl ⟨by rfl, ?_⟩) (by assumption) ?_
              rotate_left 1
              · (intro w hSw; (try dsimp only at hSw); go_simp; try with_reducible rfl)
              try simp only [Act.put, List.setIfInBounds_toArray, List.set_cons_zero, List.set_cons_succ]
              refine wpAnyH_take (i := 24) (oi := { dst := some 124, op := Go.Op.move (Go.Operand.tmp 123), type := 4, pos := "law.go:56", after := #[{ on := 23, ground := Go.Ground.data }, { on := 17, ground := Go.Ground.chain }], guard := none }) (v := ?_) rfl (by kernel_rfl) (by kernel_rfl) (by kernel_rfl) (fun _ _ _ h => h) (Or.inl ⟨by rfl, ?_⟩) (by assumption) ?_
              rotate_left 1
              · (intro w hSw; (try dsimp only at hSw); go_simp; try with_reducible rfl)
              try simp only [Act.put, List.setIfInBounds_toArray, List.set_cons_zero, List.set_cons_succ]
              refine wpAnyH_take (i := 25) (oi := { dst := some 125, op := Go.Op.fieldAddr 47 (Go.Operand.tmp 10) 2, type := 0, pos := "law.go:56", after := #[{ on := 24, ground := Go.Ground.guard }], guard := some (24, true) }) (v := ?_) rfl (by kernel_rfl) (by kernel_rfl) (by kernel_rfl) (fun _ _ _ h => h) (Or.inl ⟨by rfl, ?_⟩) (by assumption) ?_
              rotate_left 1
              · (intro w hSw; (try dsimp only at hSw); go_simp; try with_reducible rfl)
              try simp only [Act.put, List.setIfInBounds_toArray, List.set_cons_zero, List.set_cons_succ]
              refine wpAnyH_take (i := 26) (oi := { dst := some 126, op := Go.Op.load 27 (Go.Operand.tmp 125), type := 27, pos := "law.go:56", after := #[{ on := 25, ground := Go.Ground.data }, { on := 24, ground := Go.Ground.guard }], guard := some (24, true) }) (v := ?_) rfl (by kernel_rfl) (by kernel_rfl) (by kernel_rfl) (fun _ _ _ h => h) (Or.inl ⟨by rfl, ?_⟩) (by assumption) ?_
              rotate_left 1
              · (intro w hSw; (try dsimp only at hSw); go_simp; try with_reducible rfl)
              try simp only [Act.put, List.setIfInBounds_toArray, List.set_cons_zero, List.set_cons_succ]
              refine wpAnyH_take (i := 27) (oi := { dst := some 127, op := Go.Op.convert 27 9 (Go.Operand.tmp 126), type := 9, pos := "law.go:56", after := #[{ on := 26, ground := Go.Ground.data }, { on := 24, ground := Go.Ground.guard }], guard := some (24, true) }) (v := ?_) rfl (by kernel_rfl) (by kernel_rfl) (by kernel_rfl) (fun _ _ _ h => h) (Or.inl ⟨by rfl, ?_⟩) (by assumption) ?_
              rotate_left 1
              · (intro w hSw; (try dsimp only at hSw); go_simp; try with_reducible rfl)
              try simp only [Act.put, List.setIfInBounds_toArray, List.set_cons_zero, List.set_cons_succ]
              refine wpAnyH_take (i := 28) (oi := { dst := some 128, op := Go.Op.fieldAddr 45 (Go.Operand.tmp 2) 2, type := 0, pos := "law.go:56", after := #[{ on := 24, ground := Go.Ground.guard }], guard := some (24, true) }) (v := ?_) rfl (by kernel_rfl) (by kernel_rfl) (by kernel_rfl) (fun _ _ _ h => h) (Or.inl ⟨by rfl, ?_⟩) (by assumption) ?_
              rotate_left 1
              · (intro w hSw; (try dsimp only at hSw); go_simp; try with_reducible rfl)
              try simp only [Act.put, List.setIfInBounds_toArray, List.set_cons_zero, List.set_cons_succ]
              refine wpAnyH_take (i := 29) (oi := { dst := some 129, op := Go.Op.load 27 (Go.Operand.tmp 128), type := 27, pos := "law.go:56", after := #[{ on := 28, ground := Go.Ground.data }, { on := 24, ground := Go.Ground.guard }], guard := some (24, true) }) (v := ?_) rfl (by kernel_rfl) (by kernel_rfl) (by kernel_rfl) (fun _ _ _ h => h) (Or.inl ⟨by rfl, ?_⟩) (by assumption) ?_
              rotate_left 1
              · (intro w hSw; (try dsimp only at hSw); go_simp; try with_reducible rfl)
              try simp only [Act.put, List.setIfInBounds_toArray, List.set_cons_zero, List.set_cons_succ]
              refine wpAnyH_take (i := 30) (oi := { dst := some 130, op := Go.Op.convert 27 9 (Go.Operand.tmp 129), type := 9, pos := "law.go:56", after := #[{ on := 29, ground := Go.Ground.data }, { on := 24, ground := Go.Ground.guard }], guard := some (24, true) }) (v := ?_) rfl (by kernel_rfl) (by kernel_rfl) (by kernel_rfl) (fun _ _ _ h => h) (Or.inl ⟨by rfl, ?_⟩) (by assumption) ?_
              rotate_left 1
              · (intro w hSw; (try dsimp only at hSw); go_simp; try with_reducible rfl)
              try simp only [Act.put, List.setIfInBounds_toArray, List.set_cons_zero, List.set_cons_succ]
              refine wpAnyH_take (i := 31) (oi := { dst := some 131, op := Go.Op.binOp Go.BinOp.eql 9 (Go.Operand.tmp 127) (Go.Operand.tmp 130) 9, type := 4, pos := "law.go:56", after := #[{ on := 27, ground := Go.Ground.data }, { on := 30, ground := Go.Ground.data }, { on := 24, ground := Go.Ground.guard }], guard := some (24, true) }) (v := ?_) rfl (by kernel_rfl) (by kernel_rfl) (by kernel_rfl) (fun _ _ _ h => h) (Or.inl ⟨by rfl, ?_⟩) (by assumption) ?_
              rotate_left 1
              · (intro w hSw; (try dsimp only at hSw); go_simp; try with_reducible rfl)
              try simp only [Act.put, List.setIfInBounds_toArray, List.set_cons_zero, List.set_cons_succ]
              refine wpAnyH_take (i := 32) (oi := { dst := some 132, op := Go.Op.pick (Go.Operand.tmp 124) (Go.Operand.tmp 131) (Go.Operand.const (Go.Value.bool false)), type := 4, pos := "law.go:56", after := #[{ on := 24, ground := Go.Ground.data }, { on := 31, ground := Go.Ground.data }], guard := none }) (v := ?_) rfl (by kernel_rfl) (by kernel_rfl) (by kernel_rfl) (fun _ _ _ h => h) (Or.inl ⟨by rfl, ?_⟩) (by assumption) ?_
              rotate_left 1
              · (intro w hSw; (try dsimp only at hSw); go_simp; try with_reducible rfl)
              try simp only [Act.put, List.setIfInBounds_toArray, List.set_cons_zero, List.set_cons_succ]
              refine wpAnyH_take (i := 33) (oi := { dst := some 133, op := Go.Op.move (Go.Operand.tmp 132), type := 4, pos := "law.go:56", after := #[{ on := 32, ground := Go.Ground.data }, { on := 24, ground := Go.Ground.chain }], guard := none }) (v := ?_) rfl (by kernel_rfl) (by kernel_rfl) (by kernel_rfl) (fun _ _ _ h => h) (Or.inl ⟨by rfl, ?_⟩) (by assumption) ?_
              rotate_left 1
              · (intro w hSw; (try dsimp only at hSw); go_simp; try with_reducible rfl)
              try simp only [Act.put, List.setIfInBounds_toArray, List.set_cons_zero, List.set_cons_succ]
              refine wpAnyH_ready (rs := [34]) (by kernel_rfl) (by simp) ?_
              refine AllReadyH.cons (o := { dst := some 134, op := Go.Op.call { callee := Go.Callee.value (Go.Operand.func 5), args := #[], argTypes := #[] }, type := 4, pos := "law.go:56", after := #[{ on := 33, ground := Go.Ground.chain }, { on := 33, ground := Go.Ground.guard }], guard := some (33, true) }) rfl (fun K hK => ?_) AllReadyH.nil
              go_simp
              go_at_call 5
              (refine (awake_calls _).mono ?_); rintro x v7 ⟨rfl, hb⟩
              replace HB8 := Lib.hid (HB8.out.trans (hb.mono HB8.out.size))
              clear hb
              clear hHeld
              refine hK.out _ _ ?_ (fun hHeld => ?_)
              · ((try dsimp only); exact S8.out _ HB8.out)
              clear hK K
              refine wpAnyH_take (i := 35) (oi := { dst := some 135, op := Go.Op.pick (Go.Operand.tmp 133) (Go.Operand.tmp 134) (Go.Operand.const (Go.Value.bool false)), type := 4, pos := "law.go:56", after := #[{ on := 33, ground := Go.Ground.data }, { on := 34, ground := Go.Ground.data }], guard := none }) (v := ?_) rfl (by kernel_rfl) (by kernel_rfl) (by kernel_rfl) (fun _ _ _ h => h) (Or.inl ⟨by rfl, ?_⟩) (by assumption) ?_
              rotate_left 1
              · (intro w hSw; (try dsimp only at hSw); go_simp; try with_reducible rfl)
              try simp only [Act.put, List.setIfInBounds_toArray, List.set_cons_zero, List.set_cons_succ]
              refine wpAnyH_take (i := 36) (oi := { dst := some 4, op := Go.Op.assign (Go.Operand.tmp 135), type := 4, pos := "law.go:56", after := #[{ on := 35, ground := Go.Ground.data }, { on := 34, ground := Go.Ground.chain }, { on := 0, ground := Go.Ground.phase }, { on := 1, ground := Go.Ground.phase }, { on := 2, ground := Go.Ground.phase }, { on := 3, ground := Go.Ground.phase }, { on := 4, ground := Go.Ground.phase }, { on := 5, ground := Go.Ground.phase }, { on := 6, ground := Go.Ground.phase }, { on := 7, ground := Go.Ground.phase }, { on := 8, ground := Go.Ground.phase }, { on := 9, ground := Go.Ground.phase }, { on := 10, ground := Go.Ground.phase }, { on := 11, ground := Go.Ground.phase }, { on := 12, ground := Go.Ground.phase }, { on := 13, ground := Go.Ground.phase }, { on := 14, ground := Go.Ground.phase }, { on := 15, ground := Go.Ground.phase }, { on := 16, ground := Go.Ground.phase }, { on := 17, ground := Go.Ground.phase }, { on := 18, ground := Go.Ground.phase }, { on := 19, ground := Go.Ground.phase }, { on := 20, ground := Go.Ground.phase }, { on := 21, ground := Go.Ground.phase }, { on := 22, ground := Go.Ground.phase }, { on := 23, ground := Go.Ground.phase }, { on := 24, ground := Go.Ground.phase }, { on := 25, ground := Go.Ground.phase }, { on := 26, ground := Go.Ground.phase }, { on := 27, ground := Go.Ground.phase }, { on := 28, ground := Go.Ground.phase }, { on := 29, ground := Go.Ground.phase }, { on := 30, ground := Go.Ground.phase }, { on := 31, ground := Go.Ground.phase }, { on := 32, ground := Go.Ground.phase }, { on := 33, ground := Go.Ground.phase }, { on := 34, ground := Go.Ground.phase }, { on := 35, ground := Go.Ground.phase }], guard := none }) (v := ?_) rfl (by kernel_rfl) (by kernel_rfl) (by kernel_rfl) (fun _ _ _ h => h) (Or.inl ⟨by rfl, ?_⟩) (by assumption) ?_
              rotate_left 1
              · (intro w hSw; (try dsimp only at hSw); go_simp; try with_reducible rfl)
              try simp only [Act.put, List.setIfInBounds_toArray, List.set_cons_zero, List.set_cons_succ]
              refine wpAnyH_done (by kernel_rfl) ?_ _
              refine NoPanic.normal ?_
              go_wp2
              go_ret
              exact ⟨rfl, HBW.out.trans (HB8.out.mono HBW.out.size)⟩
end Go.Proofs.Ytckcnanklekchaa.Rep
