/- The walk of the statement MatMakes: which rows are a matrix, its elements, one set, a copy that stays. -/
import Derived.Test.YtdhhkkhimcpaoaaProg
import Derived.Below
import Derived.Deep.Draws
import Derived.Deep.AppendLies
import Derived.Maps.AppendAt
import Derived.OwnWalk
import Derived.Laws.BytesArg
import Derived.Laws.MakeOwn
import Derived.Laws.OwnMore
import Derived.Deep.OwnRows
import Derived.Tactics
import Derived.Lib.ConvBytes
import Derived.Laws.Slices
import Derived.WalkKit
import Derived.KernelRfl
import Derived.RowKit3
import Derived.Deep.LoopGhost
import Derived.Deep.QuietTactic
import Derived.BigQuiet
import Derived.WideLaws
import Derived.Deep.DeepCutAuto
import Derived.Deep.CutBlock
import Derived.Deep.RegionHeld3
import Derived.Laws.Rows
import Derived.Lib.AppendStr
import Derived.ArgAppend
import Derived.Laws.IdiomCopy
import Derived.OrdersHeld
import Derived.Laws.BitsLemmas
import Derived.RowKit
import Derived.Lib.Hide
import Derived.WalkSpells
import Derived.Outline
import Derived.Test.YtdhhkkhimcpaoaaMat12
namespace Go.Proofs.Ytdhhkkhimcpaoaa.Mat
open Go Go.RowKit Go.Proofs.Ytdhhkkhimcpaoaa.Mem Go.Proofs.Ytdhhkkhimcpaoaa.Bits Go.Proofs.YtdhhkkhimcpaoaaW.PrintWords
set_option linter.unusedVariables false
section
variable (A0 : Option Addr) (c0 : Nat) (l : List (List Int)) (i k x : Int) (w : World)
set_option maxRecDepth 100000 in
theorem makes_long (h : 100 < l.length) (hm : l.length ≤ 9223372036854775807) :
    Calls Try.prog 4 #[.slice A0 l.length c0, .int .i64 i, .int .i64 k, .int .u8 x] w fun e w' => e = .returned (.bool true) ∧ Below w.heap.size w w' := by
  have HB := Lib.hid (Below.refl w.heap.size w)
  have hp : (100 : Int) < (l.length : Int) := by omega
  obtain ⟨n, hn⟩ : ∃ n, n = l.length := ⟨_, rfl⟩
  rw [← hn] at hp h hm ⊢
  clear hn
  go_enter Try.func4, Try.ntmps4
  go_wp2_with ((go_at_call 8; (refine (awake_any _).mono ?_); rintro e w1 ⟨rfl, hb⟩; (try have HXn := Lib.hid (HX.out.below hb); clear HX; have HX := HXn; clear HXn); (try have HCn := Lib.hid (HC.out.below hb); clear HC; have HC := HCn; clear HCn); (try have HUn := Lib.hid (Kd.C_below HU.out hb); clear HU; have HU := HUn; clear HUn); have HBn := Lib.hid (HB.out.trans (hb.mono HB.out.size)); clear HB hb; have HB := HBn; clear HBn; (try clear ca); (try clear cb); (try clear cc); (try have ca := (HB.out.cell (World.block_lt_of_cell? _ _ CA.out)).trans CA.out); (try have cb := (HB.out.cell (World.block_lt_of_cell? _ _ CB.out)).trans CB.out); (try have cc := (HB.out.cell (World.block_lt_of_cell? _ _ CC.out)).trans CC.out)))
  go_ret
  exact ⟨rfl, HB.out⟩
set_option maxRecDepth 100000 in
theorem makes_bad (lR : RowsC w A0 l) (lB : AllBytes l) (lL : l.length ≤ c0) (hm : l.length ≤ 9223372036854775807) (h : l.length ≤ 100) (hR : ¬ RightP l) :
    Calls Try.prog 4 #[.slice A0 l.length c0, .int .i64 i, .int .i64 k, .int .u8 x] w fun e w' => e = .returned (.bool true) ∧ Below w.heap.size w w' := by
  have HB := Lib.hid (Below.refl w.heap.size w)
  have OB := Lib.hid (of_bad A0 c0 l w lR lB lL hm hR)
  have RR := Lib.hid (fun W hB => ref_right A0 c0 l false w W lR hB lL (decide_eq_false hR))
  have hp : ¬ (100 : Int) < (l.length : Int) := by omega
  obtain ⟨n, hn⟩ : ∃ n, n = l.length := ⟨_, rfl⟩
  rw [← hn] at hp OB RR h ⊢
  clear hn lR lB lL hR hm
  go_enter Try.func4, Try.ntmps4
  go_wp2_with (first
    | (go_at_call 8; (refine (awake_any _).mono ?_); rintro e w1 ⟨rfl, hb⟩; (try have HXn := Lib.hid (HX.out.below hb); clear HX; have HX := HXn; clear HXn); (try have HCn := Lib.hid (HC.out.below hb); clear HC; have HC := HCn; clear HCn); (try have HUn := Lib.hid (Kd.C_below HU.out hb); clear HU; have HU := HUn; clear HUn); have HBn := Lib.hid (HB.out.trans (hb.mono HB.out.size)); clear HB hb; have HB := HBn; clear HBn; (try clear ca); (try clear cb); (try clear cc); (try have ca := (HB.out.cell (World.block_lt_of_cell? _ _ CA.out)).trans CA.out); (try have cb := (HB.out.cell (World.block_lt_of_cell? _ _ CB.out)).trans CB.out); (try have cc := (HB.out.cell (World.block_lt_of_cell? _ _ CC.out)).trans CC.out))
    | (go_at_call 9; (with_reducible refine OB.out.mono ?_); rintro e w1 ⟨rfl, hb⟩; (try have HXn := Lib.hid (HX.out.below hb); clear HX; have HX := HXn; clear HXn); (try have HCn := Lib.hid (HC.out.below hb); clear HC; have HC := HCn; clear HCn); (try have HUn := Lib.hid (Kd.C_below HU.out hb); clear HU; have HU := HUn; clear HUn); have HBn := Lib.hid (HB.out.trans (hb.mono HB.out.size)); clear HB hb; have HB := HBn; clear HBn; (try clear ca); (try clear cb); (try clear cc); (try have ca := (HB.out.cell (World.block_lt_of_cell? _ _ CA.out)).trans CA.out); (try have cb := (HB.out.cell (World.block_lt_of_cell? _ _ CB.out)).trans CB.out); (try have cc := (HB.out.cell (World.block_lt_of_cell? _ _ CC.out)).trans CC.out))
    | (go_at_call 13; (with_reducible refine (RR.out _ HB.out).mono ?_); rintro e w1 ⟨rfl, hb⟩; (try have HXn := Lib.hid (HX.out.below hb); clear HX; have HX := HXn; clear HXn); (try have HCn := Lib.hid (HC.out.below hb); clear HC; have HC := HCn; clear HCn); (try have HUn := Lib.hid (Kd.C_below HU.out hb); clear HU; have HU := HUn; clear HUn); have HBn := Lib.hid (HB.out.trans (hb.mono HB.out.size)); clear HB hb; have HB := HBn; clear HBn; (try clear ca); (try clear cb); (try clear cc); (try have ca := (HB.out.cell (World.block_lt_of_cell? _ _ CA.out)).trans CA.out); (try have cb := (HB.out.cell (World.block_lt_of_cell? _ _ CB.out)).trans CB.out); (try have cc := (HB.out.cell (World.block_lt_of_cell? _ _ CC.out)).trans CC.out)))
  go_ret
  exact ⟨rfl, HB.out⟩
set_option maxRecDepth 100000 in
set_option maxHeartbeats 4000000 in
theorem makes_out (lR : RowsC w A0 l) (lB : AllBytes l) (lL : l.length ≤ c0) (h : RightP l) (ho : ¬ Within l.length (l.getD 0 []).length i k) :
    Calls Try.prog 4 #[.slice A0 l.length c0, .int .i64 i, .int .i64 k, .int .u8 x] w fun e w' => e = .returned (.bool true) ∧ Below w.heap.size w w' := by
  have HB := Lib.hid (Below.refl w.heap.size w)
  obtain ⟨ad, A2, k2, rfl, hca, _, _⟩ := lR.get0 h.r0
  have hl := h.r1
  have hl0 := h.r0
  have OF := Lib.hid (fun W hB => of_right (some ad) c0 l w W hB lR h lB lL)
  have RR := Lib.hid (fun W hB => ref_right (some ad) c0 l true w W lR hB lL (decide_eq_true h))
  have RO := Lib.hid (fun v W hM => rows_of v l.length (l.getD 0 []).length (flat l) W hM l (rowsTo_flat _ l h.even))
  have SA := Lib.hid (fun A c7 W (hA : RowsC W A l) (hB : Below w.heap.size w W) => ref_sameB A (some ad) c7 c0 l l true W hA (Kd.C_below lR hB) lB lB (by omega) (by omega) (decide_eq_true rfl))
  have AT1 := Lib.hid (fun v W hM => at_outB v l.length (l.getD 0 []).length (flat l) i k W hM ho)
  have RA := Lib.hid (fun W hB => ref_at (some ad) c0 l i k 0 w W lR hB lL (at_f_out l h i k ho))
  have SE := Lib.hid (fun v W hM => set_outB v l.length (l.getD 0 []).length (flat l) i k x W hM ho)
  have SM := Lib.hid (fun v u W h1 h2 => sameB v u l.length (l.getD 0 []).length l.length (l.getD 0 []).length (flat l) (flat l) true W h1 h2 (alike_refl _ _ _))
  have hp : ¬ (100 : Int) < (l.length : Int) := by omega
  have hp0 : (0 : Int) < (l.length : Int) := by omega
  obtain ⟨n, hn⟩ : ∃ n, n = l.length := ⟨_, rfl⟩
  obtain ⟨m, hm⟩ : ∃ n, n = (l.getD 0 []).length := ⟨_, rfl⟩
  rw [← hn] at hp hp0 OF RR RO SA AT1 RA SE SM ho ⊢
  rw [← hm] at OF RO AT1 SE SM ho hca
  have CA := Lib.hid hca
  have ca := hca
  have hcs : i < 0 ∨ (¬ i < 0 ∧ (0 ≤ i) ∧ ¬ i < (n : Int)) ∨ (¬ i < 0 ∧ (0 ≤ i) ∧ i < (n : Int) ∧ ¬ 0 ≤ k) ∨ (¬ i < 0 ∧ (0 ≤ i) ∧ i < (n : Int) ∧ 0 ≤ k ∧ ¬ k < (m : Int)) := by unfold Within at ho; omega
  clear hn lR lB lL hm ho h hl hl0 hca
  rcases hcs with h1 | ⟨h1, h2, h3⟩ | ⟨h1, h2, h3, h4⟩ | ⟨h1, h2, h3, h4, h5⟩
  all_goals
    go_enter Try.func4, Try.ntmps4
    go_wp2_with (first
                     | (go_at_call 8; (refine (awake_any _).mono ?_); rintro e w1 ⟨rfl, hb⟩; (try have HXn := Lib.hid (HX.out.below hb); clear HX; have HX := HXn; clear HXn); (try have HCn := Lib.hid (HC.out.below hb); clear HC; have HC := HCn; clear HCn); (try have HUn := Lib.hid (Kd.C_below HU.out hb); clear HU; have HU := HUn; clear HUn); have HBn := Lib.hid (HB.out.trans (hb.mono HB.out.size)); clear HB hb; have HB := HBn; clear HBn; (try clear ca); (try clear cb); (try clear cc); (try have ca := (HB.out.cell (World.block_lt_of_cell? _ _ CA.out)).trans CA.out); (try have cb := (HB.out.cell (World.block_lt_of_cell? _ _ CB.out)).trans CB.out); (try have cc := (HB.out.cell (World.block_lt_of_cell? _ _ CC.out)).trans CC.out))
                     | (go_at_call 9; (with_reducible refine (OF.out _ HB.out).mono ?_); rintro e w1 ⟨b0, s0, cp0, rfl, hm, hb, hb1, hs1⟩; have HX := Lib.hid hm; have B1 := Lib.hid (show w.heap.size ≤ s0 from Nat.le_trans HB.out.size hs1); have L1 := Lib.hid hm.blk.lt; have L2 := Lib.hid hm.slt; clear hm hb1 hs1; have HBn := Lib.hid (HB.out.trans (hb.mono HB.out.size)); clear HB hb; have HB := HBn; clear HBn; (try clear ca); (try clear cb); (try clear cc); (try have ca := (HB.out.cell (World.block_lt_of_cell? _ _ CA.out)).trans CA.out); (try have cb := (HB.out.cell (World.block_lt_of_cell? _ _ CB.out)).trans CB.out); (try have cc := (HB.out.cell (World.block_lt_of_cell? _ _ CC.out)).trans CC.out))
                     | (go_at_call 13; (with_reducible refine (RR.out _ HB.out).mono ?_); rintro e w1 ⟨rfl, hb⟩; (try have HXn := Lib.hid (HX.out.below hb); clear HX; have HX := HXn; clear HXn); (try have HCn := Lib.hid (HC.out.below hb); clear HC; have HC := HCn; clear HCn); (try have HUn := Lib.hid (Kd.C_below HU.out hb); clear HU; have HU := HUn; clear HUn); have HBn := Lib.hid (HB.out.trans (hb.mono HB.out.size)); clear HB hb; have HB := HBn; clear HBn; (try clear ca); (try clear cb); (try clear cc); (try have ca := (HB.out.cell (World.block_lt_of_cell? _ _ CA.out)).trans CA.out); (try have cb := (HB.out.cell (World.block_lt_of_cell? _ _ CB.out)).trans CB.out); (try have cc := (HB.out.cell (World.block_lt_of_cell? _ _ CC.out)).trans CC.out))
                     | (go_at_call 15; (with_reducible refine (RO.out _ _ (isMat HX.out)).mono ?_); rintro e w1 ⟨A7, c7, rfl, hu, hb⟩; (try have HXn := Lib.hid (HX.out.below hb); clear HX; have HX := HXn; clear HXn); (try have HCn := Lib.hid (HC.out.below hb); clear HC; have HC := HCn; clear HCn); (try have HUn := Lib.hid (Kd.C_below HU.out hb); clear HU; have HU := HUn; clear HUn); have HBn := Lib.hid (HB.out.trans (hb.mono HB.out.size)); clear HB hb; have HB := HBn; clear HBn; (try clear ca); (try clear cb); (try clear cc); (try have ca := (HB.out.cell (World.block_lt_of_cell? _ _ CA.out)).trans CA.out); (try have cb := (HB.out.cell (World.block_lt_of_cell? _ _ CB.out)).trans CB.out); (try have cc := (HB.out.cell (World.block_lt_of_cell? _ _ CC.out)).trans CC.out); have HU := Lib.hid hu; clear hu)
                     | (go_at_call 15; (with_reducible refine (RO.out _ _ (isMat HC.out)).mono ?_); rintro e w1 ⟨A8, c8, rfl, hu, hb⟩; (try have HXn := Lib.hid (HX.out.below hb); clear HX; have HX := HXn; clear HXn); (try have HCn := Lib.hid (HC.out.below hb); clear HC; have HC := HCn; clear HCn); (try have HUn := Lib.hid (Kd.C_below HU.out hb); clear HU; have HU := HUn; clear HUn); have HBn := Lib.hid (HB.out.trans (hb.mono HB.out.size)); clear HB hb; have HB := HBn; clear HBn; (try clear ca); (try clear cb); (try clear cc); (try have ca := (HB.out.cell (World.block_lt_of_cell? _ _ CA.out)).trans CA.out); (try have cb := (HB.out.cell (World.block_lt_of_cell? _ _ CB.out)).trans CB.out); (try have cc := (HB.out.cell (World.block_lt_of_cell? _ _ CC.out)).trans CC.out); (try clear HU); have HU := Lib.hid hu; clear hu)
                     | (go_at_call 14; (with_reducible refine (SA.out _ _ _ HU.out HB.out).mono ?_); rintro e w1 ⟨rfl, hb⟩; (try have HXn := Lib.hid (HX.out.below hb); clear HX; have HX := HXn; clear HXn); (try have HCn := Lib.hid (HC.out.below hb); clear HC; have HC := HCn; clear HCn); (try have HUn := Lib.hid (Kd.C_below HU.out hb); clear HU; have HU := HUn; clear HUn); have HBn := Lib.hid (HB.out.trans (hb.mono HB.out.size)); clear HB hb; have HB := HBn; clear HBn; (try clear ca); (try clear cb); (try clear cc); (try have ca := (HB.out.cell (World.block_lt_of_cell? _ _ CA.out)).trans CA.out); (try have cb := (HB.out.cell (World.block_lt_of_cell? _ _ CB.out)).trans CB.out); (try have cc := (HB.out.cell (World.block_lt_of_cell? _ _ CC.out)).trans CC.out))
                     | (go_at_call 16; (with_reducible refine (AT1.out _ _ (isMat HX.out)).mono ?_); rintro e w1 ⟨rfl, hb⟩; (try have HXn := Lib.hid (HX.out.below hb); clear HX; have HX := HXn; clear HXn); (try have HCn := Lib.hid (HC.out.below hb); clear HC; have HC := HCn; clear HCn); (try have HUn := Lib.hid (Kd.C_below HU.out hb); clear HU; have HU := HUn; clear HUn); have HBn := Lib.hid (HB.out.trans (hb.mono HB.out.size)); clear HB hb; have HB := HBn; clear HBn; (try clear ca); (try clear cb); (try clear cc); (try have ca := (HB.out.cell (World.block_lt_of_cell? _ _ CA.out)).trans CA.out); (try have cb := (HB.out.cell (World.block_lt_of_cell? _ _ CB.out)).trans CB.out); (try have cc := (HB.out.cell (World.block_lt_of_cell? _ _ CC.out)).trans CC.out))
                     | (go_at_call 16; (with_reducible refine (AT2.out _ _ (isMat HX.out)).mono ?_); rintro e w1 ⟨rfl, hb⟩; (try have HXn := Lib.hid (HX.out.below hb); clear HX; have HX := HXn; clear HXn); (try have HCn := Lib.hid (HC.out.below hb); clear HC; have HC := HCn; clear HCn); (try have HUn := Lib.hid (Kd.C_below HU.out hb); clear HU; have HU := HUn; clear HUn); have HBn := Lib.hid (HB.out.trans (hb.mono HB.out.size)); clear HB hb; have HB := HBn; clear HBn; (try clear ca); (try clear cb); (try clear cc); (try have ca := (HB.out.cell (World.block_lt_of_cell? _ _ CA.out)).trans CA.out); (try have cb := (HB.out.cell (World.block_lt_of_cell? _ _ CB.out)).trans CB.out); (try have cc := (HB.out.cell (World.block_lt_of_cell? _ _ CC.out)).trans CC.out))
                     | (go_at_call 17; (with_reducible refine (RA.out _ HB.out).mono ?_); rintro e w1 ⟨rfl, hb⟩; (try have HXn := Lib.hid (HX.out.below hb); clear HX; have HX := HXn; clear HXn); (try have HCn := Lib.hid (HC.out.below hb); clear HC; have HC := HCn; clear HCn); (try have HUn := Lib.hid (Kd.C_below HU.out hb); clear HU; have HU := HUn; clear HUn); have HBn := Lib.hid (HB.out.trans (hb.mono HB.out.size)); clear HB hb; have HB := HBn; clear HBn; (try clear ca); (try clear cb); (try clear cc); (try have ca := (HB.out.cell (World.block_lt_of_cell? _ _ CA.out)).trans CA.out); (try have cb := (HB.out.cell (World.block_lt_of_cell? _ _ CB.out)).trans CB.out); (try have cc := (HB.out.cell (World.block_lt_of_cell? _ _ CC.out)).trans CC.out))
                     | (go_at_call 18; (with_reducible refine (copyB _ _ _ _ _ (isMat HX.out)).mono ?_); rintro e w1 ⟨b3, s3, cp3, rfl, hm, hb, hb1, hs1⟩; have L3 := Lib.hid (show b3 ≠ s0 by have := HX.out.slt; omega); have L4 := Lib.hid (show s3 ≠ s0 by have := HX.out.slt; omega); (try have HXn := Lib.hid (HX.out.below hb); clear HX; have HX := HXn; clear HXn); (try have HCn := Lib.hid (HC.out.below hb); clear HC; have HC := HCn; clear HCn); (try have HUn := Lib.hid (Kd.C_below HU.out hb); clear HU; have HU := HUn; clear HUn); have HBn := Lib.hid (HB.out.trans (hb.mono HB.out.size)); clear HB hb; have HB := HBn; clear HBn; (try clear ca); (try clear cb); (try clear cc); (try have ca := (HB.out.cell (World.block_lt_of_cell? _ _ CA.out)).trans CA.out); (try have cb := (HB.out.cell (World.block_lt_of_cell? _ _ CB.out)).trans CB.out); (try have cc := (HB.out.cell (World.block_lt_of_cell? _ _ CC.out)).trans CC.out); have HC := Lib.hid hm; clear hm hb1 hs1)
                     | (go_at_call 19; (with_reducible refine (SE.out _ _ (isMat HX.out)).mono ?_); rintro e w1 ⟨rfl, hb⟩; (try have HXn := Lib.hid (HX.out.below hb); clear HX; have HX := HXn; clear HXn); (try have HCn := Lib.hid (HC.out.below hb); clear HC; have HC := HCn; clear HCn); (try have HUn := Lib.hid (Kd.C_below HU.out hb); clear HU; have HU := HUn; clear HUn); have HBn := Lib.hid (HB.out.trans (hb.mono HB.out.size)); clear HB hb; have HB := HBn; clear HBn; (try clear ca); (try clear cb); (try clear cc); (try have ca := (HB.out.cell (World.block_lt_of_cell? _ _ CA.out)).trans CA.out); (try have cb := (HB.out.cell (World.block_lt_of_cell? _ _ CB.out)).trans CB.out); (try have cc := (HB.out.cell (World.block_lt_of_cell? _ _ CC.out)).trans CC.out))
                     | (go_at_call 19; (with_reducible refine (SI.out _ _ _ _ HB.out B1.out HX.out).mono ?_); rintro e w1 ⟨rfl, hm, hb, hk⟩; have HCn := Lib.hid (hk _ _ _ _ _ _ HC.out L3.out L4.out); clear HC hk HX HB; have HC := HCn; have HX := Lib.hid hm; have HB := Lib.hid hb; clear hb hm HCn; (try clear HU); (try clear ca); (try clear cb); (try clear cc); (try have ca := (HB.out.cell (World.block_lt_of_cell? _ _ CA.out)).trans CA.out); (try have cb := (HB.out.cell (World.block_lt_of_cell? _ _ CB.out)).trans CB.out); (try have cc := (HB.out.cell (World.block_lt_of_cell? _ _ CC.out)).trans CC.out))
                     | (go_at_call 12; (with_reducible refine (SM.out _ _ _ (isMat HC.out) (isMat HX.out)).mono ?_); rintro e w1 ⟨rfl, hb⟩; (try have HXn := Lib.hid (HX.out.below hb); clear HX; have HX := HXn; clear HXn); (try have HCn := Lib.hid (HC.out.below hb); clear HC; have HC := HCn; clear HCn); (try have HUn := Lib.hid (Kd.C_below HU.out hb); clear HU; have HU := HUn; clear HUn); have HBn := Lib.hid (HB.out.trans (hb.mono HB.out.size)); clear HB hb; have HB := HBn; clear HBn; (try clear ca); (try clear cb); (try clear cc); (try have ca := (HB.out.cell (World.block_lt_of_cell? _ _ CA.out)).trans CA.out); (try have cb := (HB.out.cell (World.block_lt_of_cell? _ _ CB.out)).trans CB.out); (try have cc := (HB.out.cell (World.block_lt_of_cell? _ _ CC.out)).trans CC.out))
                     | (go_at_call 20; (with_reducible refine (sizeB _ _ _ _ _ (isMat HC.out)).mono ?_); rintro e w1 ⟨rfl, hb⟩; (try have HXn := Lib.hid (HX.out.below hb); clear HX; have HX := HXn; clear HXn); (try have HCn := Lib.hid (HC.out.below hb); clear HC; have HC := HCn; clear HCn); (try have HUn := Lib.hid (Kd.C_below HU.out hb); clear HU; have HU := HUn; clear HUn); have HBn := Lib.hid (HB.out.trans (hb.mono HB.out.size)); clear HB hb; have HB := HBn; clear HBn; (try clear ca); (try clear cb); (try clear cc); (try have ca := (HB.out.cell (World.block_lt_of_cell? _ _ CA.out)).trans CA.out); (try have cb := (HB.out.cell (World.block_lt_of_cell? _ _ CB.out)).trans CB.out); (try have cc := (HB.out.cell (World.block_lt_of_cell? _ _ CC.out)).trans CC.out)))
    go_ret
    exact ⟨rfl, HB.out⟩
theorem bnd_lt {n m r c : Nat} (h1 : n < r) (h2 : m < c) : n * c + m < r * c := by
  have : (n + 1) * c ≤ r * c := Nat.mul_le_mul_right c h1
  rw [Nat.add_mul] at this
  omega
set_option maxRecDepth 100000 in
set_option maxHeartbeats 4000000 in
theorem makes_in (i k : Nat) (lR : RowsC w A0 l) (lB : AllBytes l) (lL : l.length ≤ c0) (h : RightP l) (hi : i < l.length) (hk : k < (l.getD 0 []).length) (x0 : 0 ≤ x) (x1 : x < 256) :
    Calls Try.prog 4 #[.slice A0 l.length c0, .int .i64 i, .int .i64 k, .int .u8 x] w fun e w' => e = .returned (.bool true) ∧ Below w.heap.size w w' := by
  have HB := Lib.hid (Below.refl w.heap.size w)
  obtain ⟨ad, A2, k2, rfl, hca, _, _⟩ := lR.get0 h.r0
  obtain ⟨ad', A3, k3, e3, hcb, _, hC3⟩ := lR.get i hi
  cases e3
  have hev := h.even _ (getD_mem hi)
  rw [hev] at hcb hC3
  obtain ⟨a3, e3, hcc⟩ := Kd.at_int hC3 (k : Int) (by omega) (by omega)
  subst e3
  have hidx : i * (l.getD 0 []).length + k < (flat l).length := by
    have h1 := take_flat _ l h.even l.length (Nat.le_refl _)
    rw [List.take_length] at h1
    rw [h1]
    exact bnd_lt hi hk
  have hl := h.r1
  have hl0 := h.r0
  have hcm := h.c1
  have hy : rd (l.getD i []) (k : Int) = (flat l).getD (i * (l.getD 0 []).length + k) 0 := by
    rw [flat_getD _ l h.even i k hi hk]; simp [rd]
  rw [hy] at hcc
  simp only [Int.toNat_natCast] at hcc
  have HAL := alike_set l.length (l.getD 0 []).length (flat l) _ hidx x
  have hset : ((flat l).set (i * (l.getD 0 []).length + k) x).getD (i * (l.getD 0 []).length + k) 0 = x := by
    rw [List.getD_eq_getElem?_getD, List.getElem?_set_self (by simpa using hidx)]; rfl
  have hyr := (flat_bytes lB).getD (i * (l.getD 0 []).length + k)
  have hf := at_f_in l h i k hi hk
  obtain ⟨y, hyy⟩ : ∃ y, y = (flat l).getD (i * (l.getD 0 []).length + k) 0 := ⟨_, rfl⟩
  rw [← hyy] at hcc HAL hyr hf
  have OF := Lib.hid (fun W hB => of_right (some ad) c0 l w W hB lR h lB lL)
  have RR := Lib.hid (fun W hB => ref_right (some ad) c0 l true w W lR hB lL (decide_eq_true h))
  have RO := Lib.hid (fun v W hM => rows_of v l.length (l.getD 0 []).length (flat l) W hM l (rowsTo_flat _ l h.even))
  have SA := Lib.hid (fun A c7 W (hA : RowsC W A l) (hB : Below w.heap.size w W) => ref_sameB A (some ad) c7 c0 l l true W hA (Kd.C_below lR hB) lB lB (by omega) (by omega) (decide_eq_true rfl))
  have AT1 := Lib.hid (fun v W hM => at_inB v l.length (l.getD 0 []).length (flat l) i k y W hM hi hk hyy.symm)
  have AT2 := Lib.hid (fun v W hM => at_inB v l.length (l.getD 0 []).length ((flat l).set (i * (l.getD 0 []).length + k) x) i k x W hM hi hk hset)
  have RA := Lib.hid (fun W hB => ref_at (some ad) c0 l i k y w W lR hB lL hf)
  have SI := Lib.hid (fun b s cap W hB hs hM => set_inB b s cap l.length (l.getD 0 []).length (flat l) i k x w W hB hs hM hi hk x0 x1)
  have SM := Lib.hid (fun v u W h1 h2 => sameB v u l.length (l.getD 0 []).length l.length (l.getD 0 []).length (flat l) ((flat l).set (i * (l.getD 0 []).length + k) x) _ W h1 h2 HAL)
  have hp : ¬ (100 : Int) < (l.length : Int) := by omega
  have hp0 : (0 : Int) < (l.length : Int) := by omega
  have q1 : (0 : Int) ≤ (i : Int) := by omega
  have q2 : (0 : Int) ≤ (k : Int) := by omega
  obtain ⟨n, hn⟩ : ∃ n, n = l.length := ⟨_, rfl⟩
  obtain ⟨m, hm⟩ : ∃ n, n = (l.getD 0 []).length := ⟨_, rfl⟩
  rw [← hn] at hp hp0 OF RR RO SA AT1 AT2 RA SI SM hi ⊢
  rw [← hm] at OF RO AT1 AT2 SI SM hca hcb hk
  have q3 : (i : Int) < (n : Int) := by omega
  have q4 : (k : Int) < (m : Int) := by omega
  have CA := Lib.hid hca
  have ca := hca
  have CB := Lib.hid hcb
  have cb := hcb
  have CC := Lib.hid hcc
  have cc := hcc
  clear hn lR lB lL hm h hl hl0 hca hi hk hidx HAL hset hf hev hy hyy hC3 hcb hcc hcm
  by_cases hyx : y = x
  · have d1 : (y == x) = true := by simpa using hyx
    have d2 : (x != x) = false := by simp
    rw [decide_eq_true hyx] at SM
    clear hyx
    go_enter Try.func4, Try.ntmps4
    go_wp2_with (first
                     | (go_at_call 8; (refine (awake_any _).mono ?_); rintro e w1 ⟨rfl, hb⟩; (try have HXn := Lib.hid (HX.out.below hb); clear HX; have HX := HXn; clear HXn); (try have HCn := Lib.hid (HC.out.below hb); clear HC; have HC := HCn; clear HCn); (try have HUn := Lib.hid (Kd.C_below HU.out hb); clear HU; have HU := HUn; clear HUn); have HBn := Lib.hid (HB.out.trans (hb.mono HB.out.size)); clear HB hb; have HB := HBn; clear HBn; (try clear ca); (try clear cb); (try clear cc); (try have ca := (HB.out.cell (World.block_lt_of_cell? _ _ CA.out)).trans CA.out); (try have cb := (HB.out.cell (World.block_lt_of_cell? _ _ CB.out)).trans CB.out); (try have cc := (HB.out.cell (World.block_lt_of_cell? _ _ CC.out)).trans CC.out))
                     | (go_at_call 9; (with_reducible refine (OF.out _ HB.out).mono ?_); rintro e w1 ⟨b0, s0, cp0, rfl, hm, hb, hb1, hs1⟩; have HX := Lib.hid hm; have B1 := Lib.hid (show w.heap.size ≤ s0 from Nat.le_trans HB.out.size hs1); have L1 := Lib.hid hm.blk.lt; have L2 := Lib.hid hm.slt; clear hm hb1 hs1; have HBn := Lib.hid (HB.out.trans (hb.mono HB.out.size)); clear HB hb; have HB := HBn; clear HBn; (try clear ca); (try clear cb); (try clear cc); (try have ca := (HB.out.cell (World.block_lt_of_cell? _ _ CA.out)).trans CA.out); (try have cb := (HB.out.cell (World.block_lt_of_cell? _ _ CB.out)).trans CB.out); (try have cc := (HB.out.cell (World.block_lt_of_cell? _ _ CC.out)).trans CC.out))
                     | (go_at_call 13; (with_reducible refine (RR.out _ HB.out).mono ?_); rintro e w1 ⟨rfl, hb⟩; (try have HXn := Lib.hid (HX.out.below hb); clear HX; have HX := HXn; clear HXn); (try have HCn := Lib.hid (HC.out.below hb); clear HC; have HC := HCn; clear HCn); (try have HUn := Lib.hid (Kd.C_below HU.out hb); clear HU; have HU := HUn; clear HUn); have HBn := Lib.hid (HB.out.trans (hb.mono HB.out.size)); clear HB hb; have HB := HBn; clear HBn; (try clear ca); (try clear cb); (try clear cc); (try have ca := (HB.out.cell (World.block_lt_of_cell? _ _ CA.out)).trans CA.out); (try have cb := (HB.out.cell (World.block_lt_of_cell? _ _ CB.out)).trans CB.out); (try have cc := (HB.out.cell (World.block_lt_of_cell? _ _ CC.out)).trans CC.out))
                     | (go_at_call 15; (with_reducible refine (RO.out _ _ (isMat HX.out)).mono ?_); rintro e w1 ⟨A7, c7, rfl, hu, hb⟩; (try have HXn := Lib.hid (HX.out.below hb); clear HX; have HX := HXn; clear HXn); (try have HCn := Lib.hid (HC.out.below hb); clear HC; have HC := HCn; clear HCn); (try have HUn := Lib.hid (Kd.C_below HU.out hb); clear HU; have HU := HUn; clear HUn); have HBn := Lib.hid (HB.out.trans (hb.mono HB.out.size)); clear HB hb; have HB := HBn; clear HBn; (try clear ca); (try clear cb); (try clear cc); (try have ca := (HB.out.cell (World.block_lt_of_cell? _ _ CA.out)).trans CA.out); (try have cb := (HB.out.cell (World.block_lt_of_cell? _ _ CB.out)).trans CB.out); (try have cc := (HB.out.cell (World.block_lt_of_cell? _ _ CC.out)).trans CC.out); have HU := Lib.hid hu; clear hu)
                     | (go_at_call 15; (with_reducible refine (RO.out _ _ (isMat HC.out)).mono ?_); rintro e w1 ⟨A8, c8, rfl, hu, hb⟩; (try have HXn := Lib.hid (HX.out.below hb); clear HX; have HX := HXn; clear HXn); (try have HCn := Lib.hid (HC.out.below hb); clear HC; have HC := HCn; clear HCn); (try have HUn := Lib.hid (Kd.C_below HU.out hb); clear HU; have HU := HUn; clear HUn); have HBn := Lib.hid (HB.out.trans (hb.mono HB.out.size)); clear HB hb; have HB := HBn; clear HBn; (try clear ca); (try clear cb); (try clear cc); (try have ca := (HB.out.cell (World.block_lt_of_cell? _ _ CA.out)).trans CA.out); (try have cb := (HB.out.cell (World.block_lt_of_cell? _ _ CB.out)).trans CB.out); (try have cc := (HB.out.cell (World.block_lt_of_cell? _ _ CC.out)).trans CC.out); (try clear HU); have HU := Lib.hid hu; clear hu)
                     | (go_at_call 14; (with_reducible refine (SA.out _ _ _ HU.out HB.out).mono ?_); rintro e w1 ⟨rfl, hb⟩; (try have HXn := Lib.hid (HX.out.below hb); clear HX; have HX := HXn; clear HXn); (try have HCn := Lib.hid (HC.out.below hb); clear HC; have HC := HCn; clear HCn); (try have HUn := Lib.hid (Kd.C_below HU.out hb); clear HU; have HU := HUn; clear HUn); have HBn := Lib.hid (HB.out.trans (hb.mono HB.out.size)); clear HB hb; have HB := HBn; clear HBn; (try clear ca); (try clear cb); (try clear cc); (try have ca := (HB.out.cell (World.block_lt_of_cell? _ _ CA.out)).trans CA.out); (try have cb := (HB.out.cell (World.block_lt_of_cell? _ _ CB.out)).trans CB.out); (try have cc := (HB.out.cell (World.block_lt_of_cell? _ _ CC.out)).trans CC.out))
                     | (go_at_call 16; (with_reducible refine (AT1.out _ _ (isMat HX.out)).mono ?_); rintro e w1 ⟨rfl, hb⟩; (try have HXn := Lib.hid (HX.out.below hb); clear HX; have HX := HXn; clear HXn); (try have HCn := Lib.hid (HC.out.below hb); clear HC; have HC := HCn; clear HCn); (try have HUn := Lib.hid (Kd.C_below HU.out hb); clear HU; have HU := HUn; clear HUn); have HBn := Lib.hid (HB.out.trans (hb.mono HB.out.size)); clear HB hb; have HB := HBn; clear HBn; (try clear ca); (try clear cb); (try clear cc); (try have ca := (HB.out.cell (World.block_lt_of_cell? _ _ CA.out)).trans CA.out); (try have cb := (HB.out.cell (World.block_lt_of_cell? _ _ CB.out)).trans CB.out); (try have cc := (HB.out.cell (World.block_lt_of_cell? _ _ CC.out)).trans CC.out))
                     | (go_at_call 16; (with_reducible refine (AT2.out _ _ (isMat HX.out)).mono ?_); rintro e w1 ⟨rfl, hb⟩; (try have HXn := Lib.hid (HX.out.below hb); clear HX; have HX := HXn; clear HXn); (try have HCn := Lib.hid (HC.out.below hb); clear HC; have HC := HCn; clear HCn); (try have HUn := Lib.hid (Kd.C_below HU.out hb); clear HU; have HU := HUn; clear HUn); have HBn := Lib.hid (HB.out.trans (hb.mono HB.out.size)); clear HB hb; have HB := HBn; clear HBn; (try clear ca); (try clear cb); (try clear cc); (try have ca := (HB.out.cell (World.block_lt_of_cell? _ _ CA.out)).trans CA.out); (try have cb := (HB.out.cell (World.block_lt_of_cell? _ _ CB.out)).trans CB.out); (try have cc := (HB.out.cell (World.block_lt_of_cell? _ _ CC.out)).trans CC.out))
                     | (go_at_call 17; (with_reducible refine (RA.out _ HB.out).mono ?_); rintro e w1 ⟨rfl, hb⟩; (try have HXn := Lib.hid (HX.out.below hb); clear HX; have HX := HXn; clear HXn); (try have HCn := Lib.hid (HC.out.below hb); clear HC; have HC := HCn; clear HCn); (try have HUn := Lib.hid (Kd.C_below HU.out hb); clear HU; have HU := HUn; clear HUn); have HBn := Lib.hid (HB.out.trans (hb.mono HB.out.size)); clear HB hb; have HB := HBn; clear HBn; (try clear ca); (try clear cb); (try clear cc); (try have ca := (HB.out.cell (World.block_lt_of_cell? _ _ CA.out)).trans CA.out); (try have cb := (HB.out.cell (World.block_lt_of_cell? _ _ CB.out)).trans CB.out); (try have cc := (HB.out.cell (World.block_lt_of_cell? _ _ CC.out)).trans CC.out))
                     | (go_at_call 18; (with_reducible refine (copyB _ _ _ _ _ (isMat HX.out)).mono ?_); rintro e w1 ⟨b3, s3, cp3, rfl, hm, hb, hb1, hs1⟩; have L3 := Lib.hid (show b3 ≠ s0 by have := HX.out.slt; omega); have L4 := Lib.hid (show s3 ≠ s0 by have := HX.out.slt; omega); (try have HXn := Lib.hid (HX.out.below hb); clear HX; have HX := HXn; clear HXn); (try have HCn := Lib.hid (HC.out.below hb); clear HC; have HC := HCn; clear HCn); (try have HUn := Lib.hid (Kd.C_below HU.out hb); clear HU; have HU := HUn; clear HUn); have HBn := Lib.hid (HB.out.trans (hb.mono HB.out.size)); clear HB hb; have HB := HBn; clear HBn; (try clear ca); (try clear cb); (try clear cc); (try have ca := (HB.out.cell (World.block_lt_of_cell? _ _ CA.out)).trans CA.out); (try have cb := (HB.out.cell (World.block_lt_of_cell? _ _ CB.out)).trans CB.out); (try have cc := (HB.out.cell (World.block_lt_of_cell? _ _ CC.out)).trans CC.out); have HC := Lib.hid hm; clear hm hb1 hs1)
                     | (go_at_call 19; (with_reducible refine (SE.out _ _ (isMat HX.out)).mono ?_); rintro e w1 ⟨rfl, hb⟩; (try have HXn := Lib.hid (HX.out.below hb); clear HX; have HX := HXn; clear HXn); (try have HCn := Lib.hid (HC.out.below hb); clear HC; have HC := HCn; clear HCn); (try have HUn := Lib.hid (Kd.C_below HU.out hb); clear HU; have HU := HUn; clear HUn); have HBn := Lib.hid (HB.out.trans (hb.mono HB.out.size)); clear HB hb; have HB := HBn; clear HBn; (try clear ca); (try clear cb); (try clear cc); (try have ca := (HB.out.cell (World.block_lt_of_cell? _ _ CA.out)).trans CA.out); (try have cb := (HB.out.cell (World.block_lt_of_cell? _ _ CB.out)).trans CB.out); (try have cc := (HB.out.cell (World.block_lt_of_cell? _ _ CC.out)).trans CC.out))
                     | (go_at_call 19; (with_reducible refine (SI.out _ _ _ _ HB.out B1.out HX.out).mono ?_); rintro e w1 ⟨rfl, hm, hb, hk⟩; have HCn := Lib.hid (hk _ _ _ _ _ _ HC.out L3.out L4.out); clear HC hk HX HB; have HC := HCn; have HX := Lib.hid hm; have HB := Lib.hid hb; clear hb hm HCn; (try clear HU); (try clear ca); (try clear cb); (try clear cc); (try have ca := (HB.out.cell (World.block_lt_of_cell? _ _ CA.out)).trans CA.out); (try have cb := (HB.out.cell (World.block_lt_of_cell? _ _ CB.out)).trans CB.out); (try have cc := (HB.out.cell (World.block_lt_of_cell? _ _ CC.out)).trans CC.out))
                     | (go_at_call 12; (with_reducible refine (SM.out _ _ _ (isMat HC.out) (isMat HX.out)).mono ?_); rintro e w1 ⟨rfl, hb⟩; (try have HXn := Lib.hid (HX.out.below hb); clear HX; have HX := HXn; clear HXn); (try have HCn := Lib.hid (HC.out.below hb); clear HC; have HC := HCn; clear HCn); (try have HUn := Lib.hid (Kd.C_below HU.out hb); clear HU; have HU := HUn; clear HUn); have HBn := Lib.hid (HB.out.trans (hb.mono HB.out.size)); clear HB hb; have HB := HBn; clear HBn; (try clear ca); (try clear cb); (try clear cc); (try have ca := (HB.out.cell (World.block_lt_of_cell? _ _ CA.out)).trans CA.out); (try have cb := (HB.out.cell (World.block_lt_of_cell? _ _ CB.out)).trans CB.out); (try have cc := (HB.out.cell (World.block_lt_of_cell? _ _ CC.out)).trans CC.out))
                     | (go_at_call 20; (with_reducible refine (sizeB _ _ _ _ _ (isMat HC.out)).mono ?_); rintro e w1 ⟨rfl, hb⟩; (try have HXn := Lib.hid (HX.out.below hb); clear HX; have HX := HXn; clear HXn); (try have HCn := Lib.hid (HC.out.below hb); clear HC; have HC := HCn; clear HCn); (try have HUn := Lib.hid (Kd.C_below HU.out hb); clear HU; have HU := HUn; clear HUn); have HBn := Lib.hid (HB.out.trans (hb.mono HB.out.size)); clear HB hb; have HB := HBn; clear HBn; (try clear ca); (try clear cb); (try clear cc); (try have ca := (HB.out.cell (World.block_lt_of_cell? _ _ CA.out)).trans CA.out); (try have cb := (HB.out.cell (World.block_lt_of_cell? _ _ CB.out)).trans CB.out); (try have cc := (HB.out.cell (World.block_lt_of_cell? _ _ CC.out)).trans CC.out)))
    go_ret
    exact ⟨rfl, HB.out⟩
  · have d1 : (y == x) = false := by simpa using hyx
    have d2 : (x != x) = false := by simp
    rw [decide_eq_false hyx] at SM
    clear hyx
    go_enter Try.func4, Try.ntmps4
    go_wp2_with (first
                     | (go_at_call 8; (refine (awake_any _).mono ?_); rintro e w1 ⟨rfl, hb⟩; (try have HXn := Lib.hid (HX.out.below hb); clear HX; have HX := HXn; clear HXn); (try have HCn := Lib.hid (HC.out.below hb); clear HC; have HC := HCn; clear HCn); (try have HUn := Lib.hid (Kd.C_below HU.out hb); clear HU; have HU := HUn; clear HUn); have HBn := Lib.hid (HB.out.trans (hb.mono HB.out.size)); clear HB hb; have HB := HBn; clear HBn; (try clear ca); (try clear cb); (try clear cc); (try have ca := (HB.out.cell (World.block_lt_of_cell? _ _ CA.out)).trans CA.out); (try have cb := (HB.out.cell (World.block_lt_of_cell? _ _ CB.out)).trans CB.out); (try have cc := (HB.out.cell (World.block_lt_of_cell? _ _ CC.out)).trans CC.out))
                     | (go_at_call 9; (with_reducible refine (OF.out _ HB.out).mono ?_); rintro e w1 ⟨b0, s0, cp0, rfl, hm, hb, hb1, hs1⟩; have HX := Lib.hid hm; have B1 := Lib.hid (show w.heap.size ≤ s0 from Nat.le_trans HB.out.size hs1); have L1 := Lib.hid hm.blk.lt; have L2 := Lib.hid hm.slt; clear hm hb1 hs1; have HBn := Lib.hid (HB.out.trans (hb.mono HB.out.size)); clear HB hb; have HB := HBn; clear HBn; (try clear ca); (try clear cb); (try clear cc); (try have ca := (HB.out.cell (World.block_lt_of_cell? _ _ CA.out)).trans CA.out); (try have cb := (HB.out.cell (World.block_lt_of_cell? _ _ CB.out)).trans CB.out); (try have cc := (HB.out.cell (World.block_lt_of_cell? _ _ CC.out)).trans CC.out))
                     | (go_at_call 13; (with_reducible refine (RR.out _ HB.out).mono ?_); rintro e w1 ⟨rfl, hb⟩; (try have HXn := Lib.hid (HX.out.below hb); clear HX; have HX := HXn; clear HXn); (try have HCn := Lib.hid (HC.out.below hb); clear HC; have HC := HCn; clear HCn); (try have HUn := Lib.hid (Kd.C_below HU.out hb); clear HU; have HU := HUn; clear HUn); have HBn := Lib.hid (HB.out.trans (hb.mono HB.out.size)); clear HB hb; have HB := HBn; clear HBn; (try clear ca); (try clear cb); (try clear cc); (try have ca := (HB.out.cell (World.block_lt_of_cell? _ _ CA.out)).trans CA.out); (try have cb := (HB.out.cell (World.block_lt_of_cell? _ _ CB.out)).trans CB.out); (try have cc := (HB.out.cell (World.block_lt_of_cell? _ _ CC.out)).trans CC.out))
                     | (go_at_call 15; (with_reducible refine (RO.out _ _ (isMat HX.out)).mono ?_); rintro e w1 ⟨A7, c7, rfl, hu, hb⟩; (try have HXn := Lib.hid (HX.out.below hb); clear HX; have HX := HXn; clear HXn); (try have HCn := Lib.hid (HC.out.below hb); clear HC; have HC := HCn; clear HCn); (try have HUn := Lib.hid (Kd.C_below HU.out hb); clear HU; have HU := HUn; clear HUn); have HBn := Lib.hid (HB.out.trans (hb.mono HB.out.size)); clear HB hb; have HB := HBn; clear HBn; (try clear ca); (try clear cb); (try clear cc); (try have ca := (HB.out.cell (World.block_lt_of_cell? _ _ CA.out)).trans CA.out); (try have cb := (HB.out.cell (World.block_lt_of_cell? _ _ CB.out)).trans CB.out); (try have cc := (HB.out.cell (World.block_lt_of_cell? _ _ CC.out)).trans CC.out); have HU := Lib.hid hu; clear hu)
                     | (go_at_call 15; (with_reducible refine (RO.out _ _ (isMat HC.out)).mono ?_); rintro e w1 ⟨A8, c8, rfl, hu, hb⟩; (try have HXn := Lib.hid (HX.out.below hb); clear HX; have HX := HXn; clear HXn); (try have HCn := Lib.hid (HC.out.below hb); clear HC; have HC := HCn; clear HCn); (try have HUn := Lib.hid (Kd.C_below HU.out hb); clear HU; have HU := HUn; clear HUn); have HBn := Lib.hid (HB.out.trans (hb.mono HB.out.size)); clear HB hb; have HB := HBn; clear HBn; (try clear ca); (try clear cb); (try clear cc); (try have ca := (HB.out.cell (World.block_lt_of_cell? _ _ CA.out)).trans CA.out); (try have cb := (HB.out.cell (World.block_lt_of_cell? _ _ CB.out)).trans CB.out); (try have cc := (HB.out.cell (World.block_lt_of_cell? _ _ CC.out)).trans CC.out); (try clear HU); have HU := Lib.hid hu; clear hu)
                     | (go_at_call 14; (with_reducible refine (SA.out _ _ _ HU.out HB.out).mono ?_); rintro e w1 ⟨rfl, hb⟩; (try have HXn := Lib.hid (HX.out.below hb); clear HX; have HX := HXn; clear HXn); (try have HCn := Lib.hid (HC.out.below hb); clear HC; have HC := HCn; clear HCn); (try have HUn := Lib.hid (Kd.C_below HU.out hb); clear HU; have HU := HUn; clear HUn); have HBn := Lib.hid (HB.out.trans (hb.mono HB.out.size)); clear HB hb; have HB := HBn; clear HBn; (try clear ca); (try clear cb); (try clear cc); (try have ca := (HB.out.cell (World.block_lt_of_cell? _ _ CA.out)).trans CA.out); (try have cb := (HB.out.cell (World.block_lt_of_cell? _ _ CB.out)).trans CB.out); (try have cc := (HB.out.cell (World.block_lt_of_cell? _ _ CC.out)).trans CC.out))
                     | (go_at_call 16; (with_reducible refine (AT1.out _ _ (isMat HX.out)).mono ?_); rintro e w1 ⟨rfl, hb⟩; (try have HXn := Lib.hid (HX.out.below hb); clear HX; have HX := HXn; clear HXn); (try have HCn := Lib.hid (HC.out.below hb); clear HC; have HC := HCn; clear HCn); (try have HUn := Lib.hid (Kd.C_below HU.out hb); clear HU; have HU := HUn; clear HUn); have HBn := Lib.hid (HB.out.trans (hb.mono HB.out.size)); clear HB hb; have HB := HBn; clear HBn; (try clear ca); (try clear cb); (try clear cc); (try have ca := (HB.out.cell (World.block_lt_of_cell? _ _ CA.out)).trans CA.out); (try have cb := (HB.out.cell (World.block_lt_of_cell? _ _ CB.out)).trans CB.out); (try have cc := (HB.out.cell (World.block_lt_of_cell? _ _ CC.out)).trans CC.out))
                     | (go_at_call 16; (with_reducible refine (AT2.out _ _ (isMat HX.out)).mono ?_); rintro e w1 ⟨rfl, hb⟩; (try have HXn := Lib.hid (HX.out.below hb); clear HX; have HX := HXn; clear HXn); (try have HCn := Lib.hid (HC.out.below hb); clear HC; have HC := HCn; clear HCn); (try have HUn := Lib.hid (Kd.C_below HU.out hb); clear HU; have HU := HUn; clear HUn); have HBn := Lib.hid (HB.out.trans (hb.mono HB.out.size)); clear HB hb; have HB := HBn; clear HBn; (try clear ca); (try clear cb); (try clear cc); (try have ca := (HB.out.cell (World.block_lt_of_cell? _ _ CA.out)).trans CA.out); (try have cb := (HB.out.cell (World.block_lt_of_cell? _ _ CB.out)).trans CB.out); (try have cc := (HB.out.cell (World.block_lt_of_cell? _ _ CC.out)).trans CC.out))
                     | (go_at_call 17; (with_reducible refine (RA.out _ HB.out).mono ?_); rintro e w1 ⟨rfl, hb⟩; (try have HXn := Lib.hid (HX.out.below hb); clear HX; have HX := HXn; clear HXn); (try have HCn := Lib.hid (HC.out.below hb); clear HC; have HC := HCn; clear HCn); (try have HUn := Lib.hid (Kd.C_below HU.out hb); clear HU; have HU := HUn; clear HUn); have HBn := Lib.hid (HB.out.trans (hb.mono HB.out.size)); clear HB hb; have HB := HBn; clear HBn; (try clear ca); (try clear cb); (try clear cc); (try have ca := (HB.out.cell (World.block_lt_of_cell? _ _ CA.out)).trans CA.out); (try have cb := (HB.out.cell (World.block_lt_of_cell? _ _ CB.out)).trans CB.out); (try have cc := (HB.out.cell (World.block_lt_of_cell? _ _ CC.out)).trans CC.out))
                     | (go_at_call 18; (with_reducible refine (copyB _ _ _ _ _ (isMat HX.out)).mono ?_); rintro e w1 ⟨b3, s3, cp3, rfl, hm, hb, hb1, hs1⟩; have L3 := Lib.hid (show b3 ≠ s0 by have := HX.out.slt; omega); have L4 := Lib.hid (show s3 ≠ s0 by have := HX.out.slt; omega); (try have HXn := Lib.hid (HX.out.below hb); clear HX; have HX := HXn; clear HXn); (try have HCn := Lib.hid (HC.out.below hb); clear HC; have HC := HCn; clear HCn); (try have HUn := Lib.hid (Kd.C_below HU.out hb); clear HU; have HU := HUn; clear HUn); have HBn := Lib.hid (HB.out.trans (hb.mono HB.out.size)); clear HB hb; have HB := HBn; clear HBn; (try clear ca); (try clear cb); (try clear cc); (try have ca := (HB.out.cell (World.block_lt_of_cell? _ _ CA.out)).trans CA.out); (try have cb := (HB.out.cell (World.block_lt_of_cell? _ _ CB.out)).trans CB.out); (try have cc := (HB.out.cell (World.block_lt_of_cell? _ _ CC.out)).trans CC.out); have HC := Lib.hid hm; clear hm hb1 hs1)
                     | (go_at_call 19; (with_reducible refine (SE.out _ _ (isMat HX.out)).mono ?_); rintro e w1 ⟨rfl, hb⟩; (try have HXn := Lib.hid (HX.out.below hb); clear HX; have HX := HXn; clear HXn); (try have HCn := Lib.hid (HC.out.below hb); clear HC; have HC := HCn; clear HCn); (try have HUn := Lib.hid (Kd.C_below HU.out hb); clear HU; have HU := HUn; clear HUn); have HBn := Lib.hid (HB.out.trans (hb.mono HB.out.size)); clear HB hb; have HB := HBn; clear HBn; (try clear ca); (try clear cb); (try clear cc); (try have ca := (HB.out.cell (World.block_lt_of_cell? _ _ CA.out)).trans CA.out); (try have cb := (HB.out.cell (World.block_lt_of_cell? _ _ CB.out)).trans CB.out); (try have cc := (HB.out.cell (World.block_lt_of_cell? _ _ CC.out)).trans CC.out))
                     | (go_at_call 19; (with_reducible refine (SI.out _ _ _ _ HB.out B1.out HX.out).mono ?_); rintro e w1 ⟨rfl, hm, hb, hk⟩; have HCn := Lib.hid (hk _ _ _ _ _ _ HC.out L3.out L4.out); clear HC hk HX HB; have HC := HCn; have HX := Lib.hid hm; have HB := Lib.hid hb; clear hb hm HCn; (try clear HU); (try clear ca); (try clear cb); (try clear cc); (try have ca := (HB.out.cell (World.block_lt_of_cell? _ _ CA.out)).trans CA.out); (try have cb := (HB.out.cell (World.block_lt_of_cell? _ _ CB.out)).trans CB.out); (try have cc := (HB.out.cell (World.block_lt_of_cell? _ _ CC.out)).trans CC.out))
                     | (go_at_call 12; (with_reducible refine (SM.out _ _ _ (isMat HC.out) (isMat HX.out)).mono ?_); rintro e w1 ⟨rfl, hb⟩; (try have HXn := Lib.hid (HX.out.below hb); clear HX; have HX := HXn; clear HXn); (try have HCn := Lib.hid (HC.out.below hb); clear HC; have HC := HCn; clear HCn); (try have HUn := Lib.hid (Kd.C_below HU.out hb); clear HU; have HU := HUn; clear HUn); have HBn := Lib.hid (HB.out.trans (hb.mono HB.out.size)); clear HB hb; have HB := HBn; clear HBn; (try clear ca); (try clear cb); (try clear cc); (try have ca := (HB.out.cell (World.block_lt_of_cell? _ _ CA.out)).trans CA.out); (try have cb := (HB.out.cell (World.block_lt_of_cell? _ _ CB.out)).trans CB.out); (try have cc := (HB.out.cell (World.block_lt_of_cell? _ _ CC.out)).trans CC.out))
                     | (go_at_call 20; (with_reducible refine (sizeB _ _ _ _ _ (isMat HC.out)).mono ?_); rintro e w1 ⟨rfl, hb⟩; (try have HXn := Lib.hid (HX.out.below hb); clear HX; have HX := HXn; clear HXn); (try have HCn := Lib.hid (HC.out.below hb); clear HC; have HC := HCn; clear HCn); (try have HUn := Lib.hid (Kd.C_below HU.out hb); clear HU; have HU := HUn; clear HUn); have HBn := Lib.hid (HB.out.trans (hb.mono HB.out.size)); clear HB hb; have HB := HBn; clear HBn; (try clear ca); (try clear cb); (try clear cc); (try have ca := (HB.out.cell (World.block_lt_of_cell? _ _ CA.out)).trans CA.out); (try have cb := (HB.out.cell (World.block_lt_of_cell? _ _ CB.out)).trans CB.out); (try have cc := (HB.out.cell (World.block_lt_of_cell? _ _ CC.out)).trans CC.out)))
    go_ret
    exact ⟨rfl, HB.out⟩
theorem makes_law (_ : l.length ≤ 9223372036854775807) (lR : RowsC w A0 l) (lB : AllBytes l) (lL : l.length ≤ c0) (x0 : 0 ≤ x) (x1 : x < 256) :
    Calls Try.prog 4 #[.slice A0 l.length c0, .int .i64 i, .int .i64 k, .int .u8 x] w fun e w' => e = .returned (.bool true) ∧ Below w.heap.size w w' := by
  by_cases h0 : 100 < l.length
  · exact makes_long A0 c0 l i k x w h0 (by assumption)
  · by_cases h : RightP l
    · by_cases ho : Within l.length (l.getD 0 []).length i k
      · obtain ⟨h1, h2, h3, h4⟩ := ho
        obtain ⟨i, rfl⟩ := Int.eq_ofNat_of_zero_le h1
        obtain ⟨k, rfl⟩ := Int.eq_ofNat_of_zero_le h2
        exact makes_in A0 c0 l x w i k lR lB lL h (by omega) (by omega) x0 x1
      · exact makes_out A0 c0 l i k x w lR lB lL h ho
    · exact makes_bad A0 c0 l i k x w lR lB lL (by assumption) (by omega) h
end
end Go.Proofs.Ytdhhkkhimcpaoaa.Mat
