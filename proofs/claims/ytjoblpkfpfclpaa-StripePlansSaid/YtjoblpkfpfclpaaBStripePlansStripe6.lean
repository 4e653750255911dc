/- The statement StripePlans: its cases. -/
import Derived.Test.YtjoblpkfpfclpaaProg
import Derived.Below
import Derived.Deep.Draws
import Derived.Deep.AppendLies
import Derived.Maps.AppendAt
import Derived.OwnWalk
import Derived.Laws.BytesArg
import Derived.Laws.MakeOwn
import Derived.Laws.OwnMore
import Derived.Deep.OwnRows
import Derived.Tactics
import Derived.Lib.ConvBytes
import Derived.Laws.Slices
import Derived.WalkKit
import Derived.KernelRfl
import Derived.RowKit3
import Derived.Deep.LoopGhost
import Derived.Deep.QuietTactic
import Derived.BigQuiet
import Derived.WideLaws
import Derived.Deep.DeepCutAuto
import Derived.Deep.CutBlock
import Derived.Deep.RegionHeld3
import Derived.Laws.Rows
import Derived.Lib.AppendStr
import Derived.ArgAppend
import Derived.Laws.IdiomCopy
import Derived.OrdersHeld
import Derived.Laws.BitsLemmas
import Derived.RowKit
import Derived.Lib.Hide
import Derived.WalkSpells
import Derived.Outline
import Derived.ProofKit
import Derived.StillTailTactics
import Derived.Test.YtjoblpkfpfclpaaBStripePlansStripe5
namespace Go.Proofs.Ytjoblpkfpfclpaa.Str
open Go Go.RowKit Go.Proofs.Ytjoblpkfpfclpaa.PStripePlans Go.Proofs.Ytjoblpkfpfclpaa.BStripePlans Go.Proofs.Ytjoblpkfpfclpaa.Gf Go.Proofs.Ytjoblpkfpfclpaa.Bits Go.Proofs.Ytjoblpkfpfclpaa.Mem Go.Proofs.Ytjoblpkfpfclpaa.VPts Go.Proofs.YtjoblpkfpfclpaaW.PrintWords Go.Proofs.YtjoblpkfpfclpaaW.PrintLast
set_option linter.unusedVariables false
set_option maxRecDepth 100000 in
set_option maxHeartbeats 2000000 in
theorem plans_ok (n k : Nat) (L p : Int) (a b c s : Nat) (w : World) (h1 : 2 ≤ k) (h2 : k ≤ 8) (h3 : 2 * k - 1 ≤ n) (h4 : n ≤ 24) (hs : k * (k - 1) = s) (hc : c ≤ 20000)
    (hof : ∀ g W, IsCode W (.pointer (some ⟨g, 0, none⟩)) n k → Calls Try.prog 10 #[.pointer (some ⟨g, 0, none⟩), .int .i64 L, .int .i64 p] W fun e w' => e = planE a b c 0 ∧ Below W.heap.size W w')
    (hrf : coldframeref08_Of.f 60000 k L p = some ((a : Int), (b : Int), (c : Int), 0)) :
    Calls Try.prog 3 #[.int .i64 n, .int .i64 k, .int .i64 L, .int .i64 p] w fun e w' => e = .returned (.bool true) ∧ Below w.heap.size w w' := by
  have HB := Lib.hid (Below.refl w.heap.size w)
  have RR := Lib.hid (fun W => right_calls n k true W (decide_eq_true ⟨by omega, by omega, by omega, by omega⟩))
  have NC := Lib.hid (fun W => new_code n k W h1 h2 h3 h4)
  have OF := Lib.hid hof
  have RF := Lib.hid (fun W => refof_calls k L p a b c 0 W hrf)
  have nq := fun W => neq_plan W a b c
  have hs56 : s ≤ 56 := by rw [← hs]; exact Nat.mul_le_mul h2 (show k - 1 ≤ 7 by omega)
  have hm1 : s * c ≤ 56 * 20000 := Nat.mul_le_mul hs56 hc
  have hm2 : (k - 1) * c ≤ 7 * 20000 := Nat.mul_le_mul (by omega) hc
  obtain ⟨r, hr⟩ : ∃ r, s * c = r := ⟨_, rfl⟩
  obtain ⟨t, ht⟩ : ∃ t, (k - 1) * c = t := ⟨_, rfl⟩
  have MS := Lib.hid (fun g W hcd => message_any a b c (.pointer (some ⟨g, 0, none⟩)) n k s r W hcd (by omega) h2 hs hc hr)
  have SH := Lib.hid (fun g W hcd => shard_any a b c (.pointer (some ⟨g, 0, none⟩)) n k t W hcd (by omega) h2 hc ht)
  obtain ⟨q, hq⟩ : ∃ q, q = k - 1 := ⟨_, rfl⟩
  have f1 : IntKind.i64.wrap ((k : Int) - 1) = (q : Int) := by rw [IntWalk.i64_in _ (by omega)]; omega
  have f2 : IntKind.i64.wrap ((k : Int) * (q : Int)) = (s : Int) := by rw [← Int.natCast_mul, hq, hs, IntWalk.i64_in _ (by omega)]
  have f3 : IntKind.i64.wrap ((s : Int) * (c : Int)) = (r : Int) := by rw [← Int.natCast_mul, hr, IntWalk.i64_in _ (by omega)]
  have f4 : IntKind.i64.wrap ((q : Int) * (c : Int)) = (t : Int) := by rw [← Int.natCast_mul, hq, ht, IntWalk.i64_in _ (by omega)]
  clear hof hrf h1 h2 h3 h4 hs hc hs56 hm1 hm2 hr ht hq
  go_enter Try.func3, Try.ntmps3
  go_upto_region 7 with (first
                             | (go_at_call 7; (with_reducible refine (RR.out _).mono ?_); rintro e w1 ⟨rfl, hb⟩; have HBn := Lib.hid (HB.out.trans (hb.mono HB.out.size)); clear HB hb; have HB := HBn; clear HBn)
                             | (go_at_call 9; (with_reducible refine (NC.out _).mono ?_); rintro e w1 ⟨v, rfl, hc, hb⟩; obtain ⟨b3, A3, c3, rfl, hblk⟩ := hc; have HC := Lib.hid (show IsCode w1 (.pointer (some ⟨b3, 0, none⟩)) n k from ⟨b3, A3, c3, rfl, hblk⟩); clear hblk; have HBn := Lib.hid (HB.out.trans (hb.mono HB.out.size)); clear HB hb; have HB := HBn; clear HBn)
                             | (go_at_call 10; (with_reducible refine (OF.out _ _ HC.out).mono ?_); rintro e w4 ⟨rfl, hb⟩; have HCn := Lib.hid (HC.out.below hb); clear HC; have HC := HCn; clear HCn; have HBn := Lib.hid (HB.out.trans (hb.mono HB.out.size)); clear HB hb; have HB := HBn; clear HBn)
                             | (go_at_call 11; (with_reducible refine (RF.out _).mono ?_); rintro e w5 ⟨rfl, hb⟩; have H11 := Lib.hid (Blk.below (Blk.new _ _ _) hb (by simp)); have HCn := Lib.hid ((HC.out.alloc _).below hb); clear HC; have HC := HCn; clear HCn; have hb := ((Below.refl _ _).alloc (Nat.le_refl _) _).trans (hb.mono (by simp)); have HBn := Lib.hid (HB.out.trans (hb.mono HB.out.size)); clear HB hb; have HB := HBn; clear HBn)
                             | (go_at_call 10; (with_reducible refine (of_nil _ _ _).mono ?_); rintro e w6 ⟨rfl, hb⟩; have H13 := Lib.hid (Blk.below (Blk.new _ _ _) hb (by simp)); have H11n := Lib.hid ((H11.out.alloc _).below hb (H11.out.alloc _).lt); clear H11; have H11 := H11n; have HCn := Lib.hid ((HC.out.alloc _).below hb); clear HC; have HC := HCn; clear HCn H11n; have hb := ((Below.refl _ _).alloc (Nat.le_refl _) _).trans (hb.mono (by simp)); have HBn := Lib.hid (HB.out.trans (hb.mono HB.out.size)); clear HB hb; have HB := HBn; clear HBn))
  go_cut [58] (fun v wc => v = .bool false ∧ Hid (Blk wc w4.heap.size 29 #[.int .i64 a, .int .i64 b, .int .i64 c]) ∧ Hid (Blk wc w5.heap.size 32 #[.int .i64 a, .int .i64 b, .int .i64 c]) ∧ Hid (IsCode wc (.pointer (some ⟨b3, 0, none⟩)) n k) ∧ Hid (Below w.heap.size w wc))
  case first =>
    have A11 := Lib.hid (H11.out.alloc (.cells #[.int .i64 0, .int .i64 0, .int .i64 0] 29))
    have A13 := Lib.hid (H13.out.alloc (.cells #[.int .i64 0, .int .i64 0, .int .i64 0] 29))
    have AC := Lib.hid (HC.out.alloc (.cells #[.int .i64 0, .int .i64 0, .int .i64 0] 29))
    have AB := Lib.hid (HB.out.alloc HB.out.size (.cells #[.int .i64 0, .int .i64 0, .int .i64 0] 29))
    clear H11 H13 HC HB
    obtain ⟨W, hW⟩ : ∃ W, W = w6.alloc (.cells #[.int .i64 0, .int .i64 0, .int .i64 0] 29) := ⟨_, rfl⟩
    rw [← hW] at A11 A13 AC AB ⊢
    clear hW
    have c0 := (A11.out.cell 0).trans rfl
    have c1 := (A11.out.cell 1).trans rfl
    have c2 := (A11.out.cell 2).trans rfl
    have d0 := (A13.out.cell 0).trans rfl
    have d1 := (A13.out.cell 1).trans rfl
    have d2 := (A13.out.cell 2).trans rfl
    simp at c0 c1 c2 d0 d1 d2
    go_region_held3 (fun W => W.cell? ⟨w4.heap.size, 0, none⟩ = some (.int .i64 a) ∧ W.cell? ⟨w4.heap.size, 1, none⟩ = some (.int .i64 b) ∧ W.cell? ⟨w4.heap.size, 2, none⟩ = some (.int .i64 c) ∧ W.cell? ⟨w5.heap.size, 0, none⟩ = some (.int .i64 a) ∧ W.cell? ⟨w5.heap.size, 1, none⟩ = some (.int .i64 b) ∧ W.cell? ⟨w5.heap.size, 2, none⟩ = some (.int .i64 c)) (go_keep)
      ((go_at_call 12; (with_reducible refine (to_calls _ _ _ _).mono ?_); rintro e w8 ⟨rfl, hb⟩; have hb := Lib.hid (show Below W.heap.size W w8 from by first | exact below_of_drew hb | exact hb); have c0n := (hb.out.cell (p := ⟨w4.heap.size, 0, none⟩) A11.out.lt).trans c0; have c1n := (hb.out.cell (p := ⟨w4.heap.size, 1, none⟩) A11.out.lt).trans c1; have c2n := (hb.out.cell (p := ⟨w4.heap.size, 2, none⟩) A11.out.lt).trans c2; have d0n := (hb.out.cell (p := ⟨w5.heap.size, 0, none⟩) A13.out.lt).trans d0; have d1n := (hb.out.cell (p := ⟨w5.heap.size, 1, none⟩) A13.out.lt).trans d1; have d2n := (hb.out.cell (p := ⟨w5.heap.size, 2, none⟩) A13.out.lt).trans d2))
    all_goals
      go_wp2
      go_meet
      case rel => exact ⟨rfl, Lib.hid (A11.out.below hb.out A11.out.lt), Lib.hid (A13.out.below hb.out A13.out.lt), Lib.hid (AC.out.below hb.out), Lib.hid (AB.out.trans (hb.out.mono AB.out.size))⟩
  case rest =>
    clear H11 H13 HC HB
    obtain ⟨rfl, H11, H13, HC, HB⟩ := hcut
    go_upto_region 9 with (fail)
    have c0 := (H11.out.cell 0).trans rfl
    have c1 := (H11.out.cell 1).trans rfl
    have c2 := (H11.out.cell 2).trans rfl
    have d2 := (H13.out.cell 2).trans rfl
    simp at c0 c1 c2 d2
    go_region_held3 (fun W => W.cell? ⟨w4.heap.size, 0, none⟩ = some (.int .i64 a) ∧ W.cell? ⟨w4.heap.size, 1, none⟩ = some (.int .i64 b) ∧ W.cell? ⟨w4.heap.size, 2, none⟩ = some (.int .i64 c) ∧ W.cell? ⟨w5.heap.size, 2, none⟩ = some (.int .i64 c)) (go_keep)
      ((first
        | (go_at_call 13; (with_reducible refine (MS.out _ _ HC.out.drew).mono ?_); rintro e w8 ⟨rfl, hb⟩; have HB8 := Lib.hid (show Below wc.heap.size wc w8 from below_of_drew hb); clear hb; have g0 := (HB8.out.cell (p := ⟨w4.heap.size, 0, none⟩) H11.out.lt).trans c0; have g1 := (HB8.out.cell (p := ⟨w4.heap.size, 1, none⟩) H11.out.lt).trans c1; have g2 := (HB8.out.cell (p := ⟨w4.heap.size, 2, none⟩) H11.out.lt).trans c2; have i2 := (HB8.out.cell (p := ⟨w5.heap.size, 2, none⟩) H13.out.lt).trans d2)
        | (go_at_call 14; (with_reducible refine (SH.out _ _ (HC.out.below HB8.out)).mono ?_); rintro e w9 ⟨rfl, hb⟩; have HB9 := Lib.hid (show Below wc.heap.size wc w9 from HB8.out.trans (hb.mono HB8.out.size)); clear hb; have j0 := (HB9.out.cell (p := ⟨w4.heap.size, 0, none⟩) H11.out.lt).trans c0; have j1 := (HB9.out.cell (p := ⟨w4.heap.size, 1, none⟩) H11.out.lt).trans c1; have j2 := (HB9.out.cell (p := ⟨w4.heap.size, 2, none⟩) H11.out.lt).trans c2; have k2 := (HB9.out.cell (p := ⟨w5.heap.size, 2, none⟩) H13.out.lt).trans d2)
        | (go_at_call 8; (with_reducible refine (awake_calls _).mono ?_); rintro e w10 ⟨rfl, hb⟩; have HB10 := Lib.hid (show Below wc.heap.size wc w10 from HB9.out.trans (hb.mono HB9.out.size)); clear hb; have l0 := (HB10.out.cell (p := ⟨w4.heap.size, 0, none⟩) H11.out.lt).trans c0; have l1 := (HB10.out.cell (p := ⟨w4.heap.size, 1, none⟩) H11.out.lt).trans c1; have l2 := (HB10.out.cell (p := ⟨w4.heap.size, 2, none⟩) H11.out.lt).trans c2; have m2 := (HB10.out.cell (p := ⟨w5.heap.size, 2, none⟩) H13.out.lt).trans d2)))
    all_goals
      go_wp2
      go_ret
      exact ⟨rfl, HB.out.trans (HB10.out.mono HB.out.size)⟩
end Go.Proofs.Ytjoblpkfpfclpaa.Str
