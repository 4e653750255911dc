/- The walk of the statement MatTurns: products turned, and taken together in any way. -/
import Derived.Test.YtdhhkkhimcpaoaaProg
import Derived.Below
import Derived.Deep.Draws
import Derived.Deep.AppendLies
import Derived.Maps.AppendAt
import Derived.OwnWalk
import Derived.Laws.BytesArg
import Derived.Laws.MakeOwn
import Derived.Laws.OwnMore
import Derived.Deep.OwnRows
import Derived.Tactics
import Derived.Lib.ConvBytes
import Derived.Laws.Slices
import Derived.WalkKit
import Derived.KernelRfl
import Derived.RowKit3
import Derived.Deep.LoopGhost
import Derived.Deep.QuietTactic
import Derived.BigQuiet
import Derived.WideLaws
import Derived.Deep.DeepCutAuto
import Derived.Deep.CutBlock
import Derived.Deep.RegionHeld3
import Derived.Laws.Rows
import Derived.Lib.AppendStr
import Derived.ArgAppend
import Derived.Laws.IdiomCopy
import Derived.OrdersHeld
import Derived.Laws.BitsLemmas
import Derived.RowKit
import Derived.Lib.Hide
import Derived.WalkSpells
import Derived.Outline
import Derived.Test.YtdhhkkhimcpaoaaMatP
import Derived.Test.YtdhhkkhimcpaoaaMat9
namespace Go.Proofs.Ytdhhkkhimcpaoaa.Mat
open Go Go.RowKit Go.Proofs.Ytdhhkkhimcpaoaa.Mem Go.Proofs.Ytdhhkkhimcpaoaa.Bits Go.Proofs.YtdhhkkhimcpaoaaW.PrintWords
set_option linter.unusedVariables false

theorem flat_cols {ls : List (List Int)} (h : RightP ls) : EvenTo (ls.getD 0 []).length ls ls.length := fun l hl => h.even l (by rwa [List.take_length] at hl)
theorem of_right (A : Option Addr) (c0 : Nat) (ls : List (List Int)) (w W : World) (hB : Below w.heap.size w W) (h : RowsC w A ls) (hR : RightP ls) (hby : AllBytes ls) (hl : ls.length ≤ c0) :
    Calls Try.prog 9 #[.slice A ls.length c0] W fun e w' => ∃ b s cap, e = .returned (.tuple #[.pointer (some ⟨b, 0, none⟩), .int .i64 0]) ∧ MatIn w' b s ls.length (ls.getD 0 []).length cap (flat ls) ∧ Below W.heap.size W w' := by
  refine (of_any A c0 ls W (Kd.C_below h hB) hby hl hR.r0 hR.r1 hR.c0 hR.c1).mono ?_
  rintro e w' (⟨_, b, s, cap, rfl, hm, hb, _, _⟩ | ⟨hn, _⟩)
  · exact ⟨b, s, cap, rfl, hm, hb⟩
  · exact absurd (flat_cols hR) hn
theorem flat_bytes {ls : List (List Int)} (h : AllBytes ls) : Bytes (flat ls) := by
  intro y hy
  obtain ⟨l, hl, h'⟩ := List.mem_flatten.1 hy
  exact h l hl y h'

section
variable (A0 A1 A2 : Option Addr) (c0 c1 c2 : Nat) (a b c : List (List Int)) (w : World)
set_option maxRecDepth 100000 in
theorem turns_a (aR : RowsC w A0 a) (bR : RowsC w A1 b) (cR : RowsC w A2 c) (aL : a.length ≤ c0) (bL : b.length ≤ c1) (cL : c.length ≤ c2) (ha : ¬ SmallP a) :
    Calls Try.prog 3 #[.slice A0 a.length c0, .slice A1 b.length c1, .slice A2 c.length c2] w fun e w' => e = .returned (.bool true) ∧ Below w.heap.size w w' := by
  have SA := Lib.hid ((small_any A0 c0 a w aR aL).2 ha)
  clear aR bR cR ha
  go_enter Try.func3, Try.ntmps3
  go_wp2_with (first
    | (go_at_call 7; (first | (with_reducible refine SA.out.mono ?_) | (with_reducible refine (SB.out _).mono ?_) | (with_reducible refine (SC.out _).mono ?_)); rintro e w1 ⟨rfl, n, rfl⟩)
    | (go_at_call 8; (refine (awake_any _).mono ?_); rintro e w1 ⟨rfl, hb⟩; have HZ := Lib.hid hb; clear hb))
  go_ret
  exact ⟨rfl, by repeat (first | exact HZ.out | exact below_of_drewN HZ.out | apply pw_below_drewN)⟩
set_option maxRecDepth 100000 in
theorem turns_b (aR : RowsC w A0 a) (bR : RowsC w A1 b) (cR : RowsC w A2 c) (aL : a.length ≤ c0) (bL : b.length ≤ c1) (cL : c.length ≤ c2) (ha : SmallP a) (hb : ¬ SmallP b) :
    Calls Try.prog 3 #[.slice A0 a.length c0, .slice A1 b.length c1, .slice A2 c.length c2] w fun e w' => e = .returned (.bool true) ∧ Below w.heap.size w w' := by
  have SA := Lib.hid ((small_any A0 c0 a w aR aL).1 ha)
  have SB := Lib.hid (fun m => (small_any A1 c1 b (w.drewN m) (Kd.C_drewN bR m) bL).2 hb)
  clear aR bR cR ha hb
  go_enter Try.func3, Try.ntmps3
  go_wp2_with (first
    | (go_at_call 7; (first | (with_reducible refine SA.out.mono ?_) | (with_reducible refine (SB.out _).mono ?_) | (with_reducible refine (SC.out _).mono ?_)); rintro e w1 ⟨rfl, n, rfl⟩)
    | (go_at_call 8; (refine (awake_any _).mono ?_); rintro e w1 ⟨rfl, hb⟩; have HZ := Lib.hid hb; clear hb))
  go_ret
  exact ⟨rfl, by repeat (first | exact HZ.out | exact below_of_drewN HZ.out | apply pw_below_drewN)⟩
set_option maxRecDepth 100000 in
theorem turns_c (aR : RowsC w A0 a) (bR : RowsC w A1 b) (cR : RowsC w A2 c) (aL : a.length ≤ c0) (bL : b.length ≤ c1) (cL : c.length ≤ c2) (ha : SmallP a) (hb : SmallP b) (hc : ¬ SmallP c) :
    Calls Try.prog 3 #[.slice A0 a.length c0, .slice A1 b.length c1, .slice A2 c.length c2] w fun e w' => e = .returned (.bool true) ∧ Below w.heap.size w w' := by
  have SA := Lib.hid ((small_any A0 c0 a w aR aL).1 ha)
  have SB := Lib.hid (fun m => (small_any A1 c1 b (w.drewN m) (Kd.C_drewN bR m) bL).1 hb)
  have SC := Lib.hid (fun m => (small_any A2 c2 c (w.drewN m) (Kd.C_drewN cR m) cL).2 hc)
  clear aR bR cR ha hb hc
  go_enter Try.func3, Try.ntmps3
  go_wp2_with (first
    | (go_at_call 7; (first | (with_reducible refine SA.out.mono ?_) | (with_reducible refine (SB.out _).mono ?_) | (with_reducible refine (SC.out _).mono ?_)); rintro e w1 ⟨rfl, n, rfl⟩)
    | (go_at_call 8; (refine (awake_any _).mono ?_); rintro e w1 ⟨rfl, hb⟩; have HZ := Lib.hid hb; clear hb))
  go_ret
  exact ⟨rfl, by repeat (first | exact HZ.out | exact below_of_drewN HZ.out | apply pw_below_drewN)⟩
set_option maxRecDepth 100000 in
theorem turns_d (aR : RowsC w A0 a) (bR : RowsC w A1 b) (cR : RowsC w A2 c) (aL : a.length ≤ c0) (bL : b.length ≤ c1) (cL : c.length ≤ c2) (ha : SmallP a) (hb : SmallP b) (hc : SmallP c) (h1 : (a.getD 0 []).length ≠ b.length) :
    Calls Try.prog 3 #[.slice A0 a.length c0, .slice A1 b.length c1, .slice A2 c.length c2] w fun e w' => e = .returned (.bool true) ∧ Below w.heap.size w w' := by
  have SA := Lib.hid ((small_any A0 c0 a w aR aL).1 ha)
  have SB := Lib.hid (fun m => (small_any A1 c1 b (w.drewN m) (Kd.C_drewN bR m) bL).1 hb)
  have SC := Lib.hid (fun m => (small_any A2 c2 c (w.drewN m) (Kd.C_drewN cR m) cL).1 hc)
  obtain ⟨ad, k1, k2, rfl, ca, _, _⟩ := aR.get0 ha.r0
  obtain ⟨bd, k3, k4, rfl, cb, _, _⟩ := bR.get0 hb.r0
  obtain ⟨na, hna⟩ : ∃ n, n = (a.getD 0 []).length := ⟨_, rfl⟩
  obtain ⟨nb, hnb⟩ : ∃ n, n = (b.getD 0 []).length := ⟨_, rfl⟩
  rw [← hna] at ca h1
  rw [← hnb] at cb
  have pa : (0 : Int) < (a.length : Int) := by have := ha.r0; omega
  have pb : (0 : Int) < (b.length : Int) := by have := hb.r0; omega
  have d1 : ((na : Int) != (b.length : Int)) = true := by simp; omega
  clear aR bR cR ha hb hc h1 hna hnb
  go_enter Try.func3, Try.ntmps3
  go_wp2_with (first
    | (go_at_call 7; (first | (with_reducible refine SA.out.mono ?_) | (with_reducible refine (SB.out _).mono ?_) | (with_reducible refine (SC.out _).mono ?_)); rintro e w1 ⟨rfl, n, rfl⟩)
    | (go_at_call 8; (refine (awake_any _).mono ?_); rintro e w1 ⟨rfl, hb⟩; have HZ := Lib.hid hb; clear hb))
  go_ret
  exact ⟨rfl, by repeat (first | exact HZ.out | exact below_of_drewN HZ.out | apply pw_below_drewN)⟩
set_option maxRecDepth 100000 in
theorem turns_e (aR : RowsC w A0 a) (bR : RowsC w A1 b) (cR : RowsC w A2 c) (aL : a.length ≤ c0) (bL : b.length ≤ c1) (cL : c.length ≤ c2) (ha : SmallP a) (hb : SmallP b) (hc : SmallP c) (h1 : (a.getD 0 []).length = b.length) (h2 : (b.getD 0 []).length ≠ c.length) :
    Calls Try.prog 3 #[.slice A0 a.length c0, .slice A1 b.length c1, .slice A2 c.length c2] w fun e w' => e = .returned (.bool true) ∧ Below w.heap.size w w' := by
  have SA := Lib.hid ((small_any A0 c0 a w aR aL).1 ha)
  have SB := Lib.hid (fun m => (small_any A1 c1 b (w.drewN m) (Kd.C_drewN bR m) bL).1 hb)
  have SC := Lib.hid (fun m => (small_any A2 c2 c (w.drewN m) (Kd.C_drewN cR m) cL).1 hc)
  obtain ⟨ad, k1, k2, rfl, ca, _, _⟩ := aR.get0 ha.r0
  obtain ⟨bd, k3, k4, rfl, cb, _, _⟩ := bR.get0 hb.r0
  obtain ⟨na, hna⟩ : ∃ n, n = (a.getD 0 []).length := ⟨_, rfl⟩
  obtain ⟨nb, hnb⟩ : ∃ n, n = (b.getD 0 []).length := ⟨_, rfl⟩
  rw [← hna] at ca h1
  rw [← hnb] at cb h2
  have pa : (0 : Int) < (a.length : Int) := by have := ha.r0; omega
  have pb : (0 : Int) < (b.length : Int) := by have := hb.r0; omega
  have d1 : ((na : Int) != (b.length : Int)) = false := by simp; omega
  have d2 : ((nb : Int) != (c.length : Int)) = true := by simp; omega
  clear aR bR cR ha hb hc h1 h2 hna hnb
  go_enter Try.func3, Try.ntmps3
  go_wp2_with (first
    | (go_at_call 7; (first | (with_reducible refine SA.out.mono ?_) | (with_reducible refine (SB.out _).mono ?_) | (with_reducible refine (SC.out _).mono ?_)); rintro e w1 ⟨rfl, n, rfl⟩)
    | (go_at_call 8; (refine (awake_any _).mono ?_); rintro e w1 ⟨rfl, hb⟩; have HZ := Lib.hid hb; clear hb))
  go_ret
  exact ⟨rfl, by repeat (first | exact HZ.out | exact below_of_drewN HZ.out | apply pw_below_drewN)⟩
set_option maxHeartbeats 2000000 in
set_option maxRecDepth 100000 in
theorem turns_f (aR : RowsC w A0 a) (bR : RowsC w A1 b) (cR : RowsC w A2 c) (aL : a.length ≤ c0) (bL : b.length ≤ c1) (cL : c.length ≤ c2) (aB : AllBytes a) (bB : AllBytes b) (cB : AllBytes c) (ha : SmallP a) (hb : SmallP b) (hc : SmallP c) (h1 : (a.getD 0 []).length = b.length) (h2 : (b.getD 0 []).length = c.length) :
    Calls Try.prog 3 #[.slice A0 a.length c0, .slice A1 b.length c1, .slice A2 c.length c2] w fun e w' => e = .returned (.bool true) ∧ Below w.heap.size w w' := by
  have SA := Lib.hid ((small_any A0 c0 a w aR aL).1 ha)
  have SB := Lib.hid (fun m => (small_any A1 c1 b (w.drewN m) (Kd.C_drewN bR m) bL).1 hb)
  have SC := Lib.hid (fun m => (small_any A2 c2 c (w.drewN m) (Kd.C_drewN cR m) cL).1 hc)
  have fa := flat_bytes aB
  have fb := flat_bytes bB
  have fc := flat_bytes cB
  have EQ1 := Lib.hid (show AlikeB a.length (c.getD 0 []).length (prodL a.length c.length (c.getD 0 []).length (prodL a.length b.length c.length (flat a) (flat b)) (flat c)) a.length (c.getD 0 []).length
    (prodL a.length b.length (c.getD 0 []).length (flat a) (prodL b.length c.length (c.getD 0 []).length (flat b) (flat c))) = true from decide_eq_true ⟨rfl, rfl, prodL_assoc _ _ _ _ _ _ _ fa fb fc⟩)
  have EQ2 := Lib.hid (show AlikeB c.length a.length (prodL c.length b.length a.length (turnL b.length c.length (flat b)) (turnL a.length b.length (flat a))) c.length a.length (turnL a.length c.length (prodL a.length b.length c.length (flat a) (flat b))) = true from
    decide_eq_true ⟨rfl, rfl, prodL_turn _ _ _ _ _ fa fb⟩)
  obtain ⟨ad, k1, k2, rfl, ca, _, _⟩ := aR.get0 ha.r0
  obtain ⟨bd, k3, k4, rfl, cb, _, _⟩ := bR.get0 hb.r0
  obtain ⟨na, hna⟩ : ∃ n, n = (a.getD 0 []).length := ⟨_, rfl⟩
  obtain ⟨nb, hnb⟩ : ∃ n, n = (b.getD 0 []).length := ⟨_, rfl⟩
  rw [← hna] at ca h1
  rw [← hnb] at cb h2
  have pa : (0 : Int) < (a.length : Int) := by have := ha.r0; omega
  have pb : (0 : Int) < (b.length : Int) := by have := hb.r0; omega
  have d1 : ((na : Int) != (b.length : Int)) = false := by simp; omega
  have d2 : ((nb : Int) != (c.length : Int)) = false := by simp; omega
  have aP := Lib.hid ha.toRightP
  have bP := Lib.hid hb.toRightP
  have cP := Lib.hid hc.toRightP
  have hDa := Lib.hid (show (a.getD 0 []).length = b.length by rw [← hna]; exact h1)
  have hDb := Lib.hid (show (b.getD 0 []).length = c.length by rw [← hnb]; exact h2)
  have aRh := Lib.hid aR
  have bRh := Lib.hid bR
  have cRh := Lib.hid cR
  have aBh := Lib.hid aB
  have bBh := Lib.hid bB
  have cBh := Lib.hid cB
  have aLh := Lib.hid aL
  have bLh := Lib.hid bL
  have cLh := Lib.hid cL
  have HB0 := Lib.hid (fun m => pw_below_drewN (Below.refl w.heap.size w) m)
  clear aR bR cR aB bB cB aL bL cL ha hb hc h1 h2 hna hnb fa fb fc
  go_enter Try.func3, Try.ntmps3
  go_wp2_with (first
    | (go_at_call 7; (first | (with_reducible refine SA.out.mono ?_) | (with_reducible refine (SB.out _).mono ?_) | (with_reducible refine (SC.out _).mono ?_)); rintro e w1 ⟨rfl, n, rfl⟩)
    | (go_at_call 9; (with_reducible refine (of_right (some ad) c0 a w _ (HB0.out _) aRh.out aP.out aBh.out aLh.out).mono ?_); rintro e w1 ⟨bb, ss, cp, rfl, hm, hb⟩; rw [hDa.out] at hm; have HX := Lib.hid (show IsMat w1 (.pointer (some ⟨bb, 0, none⟩)) a.length b.length (flat a) from ⟨bb, ss, cp, rfl, hm⟩); clear hm; have HB := Lib.hid ((HB0.out _).trans (hb.mono (HB0.out _).size)); clear hb)
    | (go_at_call 9; (with_reducible refine (of_right (some bd) c1 b w _ HB.out bRh.out bP.out bBh.out bLh.out).mono ?_); rintro e w1 ⟨bb, ss, cp, rfl, hm, hb⟩; rw [hDb.out] at hm; have HY := Lib.hid (show IsMat w1 (.pointer (some ⟨bb, 0, none⟩)) b.length c.length (flat b) from ⟨bb, ss, cp, rfl, hm⟩); clear hm; have HXn := Lib.hid (HX.out.below hb); clear HX; have HX := HXn; clear HXn; have HBn := Lib.hid (HB.out.trans (hb.mono HB.out.size)); clear HB hb; have HB := HBn; clear HBn)
    | (go_at_call 9; (with_reducible refine (of_right A2 c2 c w _ HB.out cRh.out cP.out cBh.out cLh.out).mono ?_); rintro e w1 ⟨bb, ss, cp, rfl, hm, hb⟩; have HZ := Lib.hid (show IsMat w1 (.pointer (some ⟨bb, 0, none⟩)) c.length (c.getD 0 []).length (flat c) from ⟨bb, ss, cp, rfl, hm⟩); clear hm; have HXn := Lib.hid (HX.out.below hb); clear HX; have HX := HXn; clear HXn; have HYn := Lib.hid (HY.out.below hb); clear HY; have HY := HYn; clear HYn; have HBn := Lib.hid (HB.out.trans (hb.mono HB.out.size)); clear HB hb; have HB := HBn; clear HBn)
    | (go_at_call 10; (with_reducible refine (mul_goodP _ _ _ _ _ _ _ _ HX.out HY.out).mono ?_); rintro e w1 ⟨bb, ss, cp, rfl, hm, hb, _, _⟩; have HXY := Lib.hid (show IsMat w1 (.pointer (some ⟨bb, 0, none⟩)) _ _ _ from ⟨bb, ss, cp, rfl, hm⟩); clear hm; have HXn := Lib.hid (HX.out.below hb); clear HX; have HX := HXn; clear HXn; have HYn := Lib.hid (HY.out.below hb); clear HY; have HY := HYn; clear HYn; have HZn := Lib.hid (HZ.out.below hb); clear HZ; have HZ := HZn; clear HZn; have HBn := Lib.hid (HB.out.trans (hb.mono HB.out.size)); clear HB hb; have HB := HBn; clear HBn)
    | (go_at_call 10; (with_reducible refine (mul_goodP _ _ _ _ _ _ _ _ HY.out HZ.out).mono ?_); rintro e w1 ⟨bb, ss, cp, rfl, hm, hb, _, _⟩; have HYZ := Lib.hid (show IsMat w1 (.pointer (some ⟨bb, 0, none⟩)) _ _ _ from ⟨bb, ss, cp, rfl, hm⟩); clear hm; have HXn := Lib.hid (HX.out.below hb); clear HX; have HX := HXn; clear HXn; have HYn := Lib.hid (HY.out.below hb); clear HY; have HY := HYn; clear HYn; have HZn := Lib.hid (HZ.out.below hb); clear HZ; have HZ := HZn; clear HZn; have HXYn := Lib.hid (HXY.out.below hb); clear HXY; have HXY := HXYn; clear HXYn; have HBn := Lib.hid (HB.out.trans (hb.mono HB.out.size)); clear HB hb; have HB := HBn; clear HBn)
    | (go_at_call 10; (with_reducible refine (mul_goodP _ _ _ _ _ _ _ _ HXY.out HZ.out).mono ?_); rintro e w1 ⟨bb, ss, cp, rfl, hm, hb, _, _⟩; have HP := Lib.hid (show IsMat w1 (.pointer (some ⟨bb, 0, none⟩)) _ _ _ from ⟨bb, ss, cp, rfl, hm⟩); clear hm; have HXn := Lib.hid (HX.out.below hb); clear HX; have HX := HXn; clear HXn; have HYn := Lib.hid (HY.out.below hb); clear HY; have HY := HYn; clear HYn; have HXYn := Lib.hid (HXY.out.below hb); clear HXY; have HXY := HXYn; clear HXYn; have HYZn := Lib.hid (HYZ.out.below hb); clear HYZ; have HYZ := HYZn; clear HYZn; have HBn := Lib.hid (HB.out.trans (hb.mono HB.out.size)); clear HB hb; have HB := HBn; clear HBn)
    | (go_at_call 10; (with_reducible refine (mul_goodP _ _ _ _ _ _ _ _ HX.out HYZ.out).mono ?_); rintro e w1 ⟨bb, ss, cp, rfl, hm, hb, _, _⟩; have HQ := Lib.hid (show IsMat w1 (.pointer (some ⟨bb, 0, none⟩)) _ _ _ from ⟨bb, ss, cp, rfl, hm⟩); clear hm; have HXn := Lib.hid (HX.out.below hb); clear HX; have HX := HXn; clear HXn; have HYn := Lib.hid (HY.out.below hb); clear HY; have HY := HYn; clear HYn; have HXYn := Lib.hid (HXY.out.below hb); clear HXY; have HXY := HXYn; clear HXYn; have HPn := Lib.hid (HP.out.below hb); clear HP; have HP := HPn; clear HPn; have HBn := Lib.hid (HB.out.trans (hb.mono HB.out.size)); clear HB hb; have HB := HBn; clear HBn)
    | (go_at_call 11; (with_reducible refine (turned_anyP _ _ _ _ _ HY.out).mono ?_); rintro e w1 ⟨bb, ss, cp, rfl, hm, hb, _, _⟩; have HTY := Lib.hid (show IsMat w1 (.pointer (some ⟨bb, 0, none⟩)) _ _ _ from ⟨bb, ss, cp, rfl, hm⟩); clear hm; have HXn := Lib.hid (HX.out.below hb); clear HX; have HX := HXn; clear HXn; have HXYn := Lib.hid (HXY.out.below hb); clear HXY; have HXY := HXYn; clear HXYn; have HPn := Lib.hid (HP.out.below hb); clear HP; have HP := HPn; clear HPn; have HQn := Lib.hid (HQ.out.below hb); clear HQ; have HQ := HQn; clear HQn; have HBn := Lib.hid (HB.out.trans (hb.mono HB.out.size)); clear HB hb; have HB := HBn; clear HBn)
    | (go_at_call 11; (with_reducible refine (turned_anyP _ _ _ _ _ HX.out).mono ?_); rintro e w1 ⟨bb, ss, cp, rfl, hm, hb, _, _⟩; have HTX := Lib.hid (show IsMat w1 (.pointer (some ⟨bb, 0, none⟩)) _ _ _ from ⟨bb, ss, cp, rfl, hm⟩); clear hm; have HTYn := Lib.hid (HTY.out.below hb); clear HTY; have HTY := HTYn; clear HTYn; have HXYn := Lib.hid (HXY.out.below hb); clear HXY; have HXY := HXYn; clear HXYn; have HPn := Lib.hid (HP.out.below hb); clear HP; have HP := HPn; clear HPn; have HQn := Lib.hid (HQ.out.below hb); clear HQ; have HQ := HQn; clear HQn; have HBn := Lib.hid (HB.out.trans (hb.mono HB.out.size)); clear HB hb; have HB := HBn; clear HBn)
    | (go_at_call 10; (with_reducible refine (mul_goodP _ _ _ _ _ _ _ _ HTY.out HTX.out).mono ?_); rintro e w1 ⟨bb, ss, cp, rfl, hm, hb, _, _⟩; have HT := Lib.hid (show IsMat w1 (.pointer (some ⟨bb, 0, none⟩)) _ _ _ from ⟨bb, ss, cp, rfl, hm⟩); clear hm; have HXYn := Lib.hid (HXY.out.below hb); clear HXY; have HXY := HXYn; clear HXYn; have HPn := Lib.hid (HP.out.below hb); clear HP; have HP := HPn; clear HPn; have HQn := Lib.hid (HQ.out.below hb); clear HQ; have HQ := HQn; clear HQn; have HBn := Lib.hid (HB.out.trans (hb.mono HB.out.size)); clear HB hb; have HB := HBn; clear HBn)
    | (go_at_call 12; (with_reducible refine (same_any _ _ _ _ _ _ _ _ _ HP.out HQ.out).mono ?_); rintro e w1 ⟨rfl, n, rfl⟩; rw [EQ1.out]; have HXYn := Lib.hid (HXY.out.drewN n); clear HXY; have HXY := HXYn; clear HXYn; have HTn := Lib.hid (HT.out.drewN n); clear HT; have HT := HTn; clear HTn; have HBn := Lib.hid (pw_below_drewN HB.out n); clear HB; have HB := HBn; clear HBn)
    | (go_at_call 11; (with_reducible refine (turned_anyP _ _ _ _ _ HXY.out).mono ?_); rintro e w1 ⟨bb, ss, cp, rfl, hm, hb, _, _⟩; have HTU := Lib.hid (show IsMat w1 (.pointer (some ⟨bb, 0, none⟩)) _ _ _ from ⟨bb, ss, cp, rfl, hm⟩); clear hm; have HTn := Lib.hid (HT.out.below hb); clear HT; have HT := HTn; clear HTn; have HBn := Lib.hid (HB.out.trans (hb.mono HB.out.size)); clear HB hb; have HB := HBn; clear HBn)
    | (go_at_call 12; (with_reducible refine (same_any _ _ _ _ _ _ _ _ _ HT.out HTU.out).mono ?_); rintro e w1 ⟨rfl, n, rfl⟩; rw [EQ2.out]; have HBn := Lib.hid (pw_below_drewN HB.out n); clear HB; have HB := HBn; clear HBn)
    | (go_at_call 8; (refine (awake_any _).mono ?_); rintro e w1 ⟨rfl, hb⟩; have HBn := Lib.hid (HB.out.trans (hb.mono HB.out.size)); clear HB hb; have HB := HBn; clear HBn))
  go_ret
  exact ⟨rfl, HB.out⟩
end
end Go.Proofs.Ytdhhkkhimcpaoaa.Mat
