/- Replies: the program's parse. -/
import Derived.Test.YtckcnanklekchaaProg
import Derived.Below
import Derived.Deep.Draws
import Derived.Deep.AppendLies
import Derived.Maps.AppendAt
import Derived.OwnWalk
import Derived.Laws.BytesArg
import Derived.Laws.MakeOwn
import Derived.Laws.OwnMore
import Derived.Deep.OwnRows
import Derived.Tactics
import Derived.Lib.ConvBytes
import Derived.Laws.Slices
import Derived.WalkKit
import Derived.KernelRfl
import Derived.RowKit3
import Derived.Deep.LoopGhost
import Derived.Deep.QuietTactic
import Derived.BigQuiet
import Derived.WideLaws
import Derived.Deep.DeepCutAuto
import Derived.Deep.CutBlock
import Derived.Deep.RegionHeld3
import Derived.Laws.Rows
import Derived.Lib.AppendStr
import Derived.ArgAppend
import Derived.Laws.IdiomCopy
import Derived.OrdersHeld
import Derived.Laws.BitsLemmas
import Derived.RowKit
import Derived.Lib.Hide
import Derived.WalkSpells
import Derived.StillTailTactics
import Derived.Outline
import Derived.Test.YtckcnanklekchaaBWireRepliesRep1
namespace Go.Proofs.Ytckcnanklekchaa.Rep
open Go Go.RowKit Go.Proofs.Ytckcnanklekchaa.Mem Go.Proofs.Ytckcnanklekchaa.Bits Go.Proofs.YtckcnanklekchaaW.PrintWords Go.Proofs.YtckcnanklekchaaW.PrintLast
open Go.Proofs.Ytckcnanklekchaa.Pack
set_option linter.unusedVariables false

def rN (b : List Int) : Nat := leN (b.take 8)
def rE (b : List Int) : Nat := leN ((b.drop 8).take 1)
def okR (b : List Int) : Prop := 9 ≤ b.length ∧ (rE b = 0 ∨ (b.drop 9).length = 0)
theorem rchain (b : List Int) (hb : AllB b) : ∃ n e x1 x2 t1 t2, numR 8 b false = (n, x1, t1) ∧ numR 1 x1 t1 = (e, x2, t2) ∧ e < 256 ∧ (t2 = false → 9 ≤ b.length ∧ n = rN b ∧ e = rE b ∧ x2 = b.drop 9) ∧ (9 ≤ b.length → t2 = false) := by
  have hb1 := numR_b 8 b false hb
  obtain ⟨⟨n, x1, t1⟩, e1⟩ : ∃ r, numR 8 b false = r := ⟨_, rfl⟩
  rw [e1] at hb1
  have hlt : (numR 1 x1 t1).1 < 256 := numR_lt 1 x1 t1 hb1 (by decide)
  obtain ⟨⟨e, x2, t2⟩, e2⟩ : ∃ r, numR 1 x1 t1 = r := ⟨_, rfl⟩
  rw [e2] at hlt
  have ok : 9 ≤ b.length → n = rN b ∧ e = rE b ∧ x2 = b.drop 9 ∧ t2 = false := by
    intro h
    have f1 : numR 8 b false = (rN b, b.drop 8, false) := numR_ok 8 b (by decide) (by omega)
    rw [e1] at f1
    simp only [Prod.mk.injEq] at f1
    obtain ⟨rfl, rfl, rfl⟩ := f1
    have f2 := (numR_ok 1 (b.drop 8) (by decide) (by simp; omega)).symm.trans e2
    simp only [Prod.mk.injEq, List.drop_drop] at f2
    obtain ⟨f3, f4, f5⟩ := f2
    exact ⟨rfl, f3.symm, f4.symm, f5.symm⟩
  refine ⟨n, e, x1, x2, t1, t2, e1, e2, hlt, fun ht => ?_, fun h => (ok h).2.2.2⟩
  have hl : 9 ≤ b.length := by
    rcases Nat.lt_or_ge b.length 9 with h | h
    · have h0 : ((0, b, false) : Nat × List Int × Bool).2.2 = true ∨ ((0, b, false) : Nat × List Int × Bool).2.1.length < 1 + 8 := .inr (by simp only; omega)
      have h1 := bad_step 8 1 (0, b, false) (n, x1, t1) (by decide) e1.symm h0
      have h2 := bad_step 1 0 (n, x1, t1) (e, x2, t2) (by decide) e2.symm h1
      rcases h2 with h2 | h2
      · simp only at h2; rw [h2] at ht; cases ht
      · omega
    · exact h
  exact ⟨hl, (ok hl).1, (ok hl).2.1, (ok hl).2.2.1⟩
def RParse (b : List Int) (yes no : Value) (W : World) (x : Ending) (w' : World) : Prop :=
  (∃ (A : Option Addr) (m c : Nat), okR b ∧ m = (b.drop 9).length ∧ m ≤ c ∧ x = .returned (.tuple #[.agg #[.int .u64 (rN b), .int .i64 (rE b), .slice A m c], yes]) ∧ (Kd.int .u8).C w' A m (b.drop 9) ∧ Below W.heap.size W w') ∨
  (¬ okR b ∧ x = .returned (.tuple #[.agg #[.int .u64 0, .int .i64 0, .slice none 0 0], no]) ∧ Below W.heap.size W w')
set_option maxRecDepth 100000 in
set_option maxHeartbeats 2000000 in
theorem rparse_any (A : Option Addr) (c : Nat) (b : List Int) (w0 W : World) (hB : Below w0.heap.size w0 W) (hr : (Kd.int .u8).C w0 A b.length b) (hc : b.length ≤ c) (hl : b.length ≤ 900000) (hb : AllB b) :
    Calls Try.prog 16 #[.slice A b.length c] W (RParse b (.int .i64 0) (.int .i64 21) W) := by
  obtain ⟨n, e, x1, x2, t1, t2, r1, r2, he, hg1, hg2⟩ := rchain b hb
  obtain ⟨W1, hW1⟩ : ∃ W1, W1 = W.alloc (.cells #[.int .u64 0, .int .i64 0, .slice none 0 0] 47) := ⟨_, rfl⟩
  have hb1 : Below W.heap.size W W1 := by rw [hW1]; exact (Below.refl _ _).alloc (Nat.le_refl _) _
  have hblk : Blk W1 W.heap.size 47 #[.int .u64 0, .int .i64 0, .slice none 0 0] := by rw [hW1]; exact Blk.new _ _ _
  have hrd := Kd.reads_of_C (d := (0 : Int)) (Kd.C_below hr (hB.trans (hb1.mono hB.size)))
  have hlt : W.heap.size < W1.heap.size := hblk.lt
  obtain ⟨d, hd1, hd2⟩ : ∃ d, (∀ ad, A = some ad → 0 < b.length → ad.block = d) ∧ d ≠ W1.heap.size := by
    by_cases h0 : 0 < b.length
    · obtain ⟨ad', e', hcell⟩ := (Kd.reads_of_C (d := (0 : Int)) (Kd.C_below hr hB)).2.2 h0
      have := World.block_lt_of_cell? W _ (hcell 0 h0)
      rw [Mem.block_of_add] at this
      exact ⟨ad'.block, fun ad e _ => by rw [e] at e'; cases e'; rfl, by omega⟩
    · exact ⟨W1.heap.size + 1, fun ad e h => absurd h h0, by omega⟩
  have RN := Lib.hid (read_new W1.heap.size d A c b W1 hrd (Nat.le_refl _) hc (by omega) hb hd1 hd2)
  have HB1 := Lib.hid hb1
  have HBK := Lib.hid hblk
  have R1 := Lib.hid r1
  have R2 := Lib.hid r2
  have G1 := Lib.hid hg1
  have G2 := Lib.hid hg2
  have HLT := Lib.hid hlt
  have e1 : IntKind.i64.wrap (e : Int) = (e : Int) := wraps_i64 _ (by omega) (by omega)
  have HW1 := Lib.hid hW1
  obtain ⟨N, hN⟩ : ∃ N, N = b.length := ⟨_, rfl⟩
  rw [← hN] at RN ⊢
  clear hN r1 r2 hg1 hg2 hblk hb1 hrd hd1 hd2 hr hc hl hW1 hlt
  go_enter Try.func16, Try.ntmps16
  go_upto_region 2 with (rw [← HW1.out]; go_at_call 20; (with_reducible refine RN.out.mono ?_); rintro x w1 ⟨rfl, hrs, hb⟩; have HR0 := Lib.hid hrs; have HB2 := Lib.hid (HB1.out.trans (hb.mono (Nat.le_of_lt HLT.out))); have HK1 := Lib.hid (Blk.below HBK.out hb (Blk.lt HBK.out)); clear hrs hb)
  go_upto_region 3 with (first
    | (go_at_call 21; (with_reducible refine (num_t HR0.out 8 n x1 t1 R1.out).mono ?_); rintro x u1 ⟨rfl, h1⟩; have HR1 := Lib.hid h1; clear h1 HR0)
    | (go_at_call 21; (with_reducible refine (num_t HR1.out 1 e x2 t2 R2.out).mono ?_); rintro x u4 ⟨rfl, h1⟩; have HR4 := Lib.hid h1; clear h1 HR1)
    | (go_at_call 23; (with_reducible refine (rest_s HR4.out).mono ?_); rintro x u5 ⟨A5, c5, rfl, ho, h1, _⟩; have HR5 := Lib.hid h1; have HO5 := Lib.hid ho; clear h1 ho))
  have hlt5 : W.heap.size < u5.heap.size := by have h1 := Blk.lt HK1.out; have h2 := HR5.out.dn.keep.1; omega
  have hk5 : Blk u5 W.heap.size 47 _ := HR5.out.dn.keep.blk HK1.out (Nat.ne_of_lt HLT.out) (by simp)
  obtain ⟨W5, hW5⟩ : ∃ W5, W5 = u5.alloc (.cells #[.int .u64 n, .int .i64 e, .slice A5 x2.length c5] 47) := ⟨_, rfl⟩
  have hb5 : Below u5.heap.size u5 W5 := by rw [hW5]; exact (Below.refl _ _).alloc (Nat.le_refl _) _
  have HKZ := Lib.hid (Blk.below hk5 hb5 hk5.lt)
  have HC5 := Lib.hid (show Blk W5 u5.heap.size 47 #[.int .u64 n, .int .i64 e, .slice A5 x2.length c5] by rw [hW5]; exact Blk.new _ _ _)
  have HOW := Lib.hid (pw_own_below HO5.out hb5)
  have HRW := Lib.hid (HR5.out.next hb5)
  have HBW := Lib.hid (show Below W.heap.size W W5 from (HB2.out.trans (HR5.out.dn.bel.mono (Nat.le_of_lt HLT.out))).trans (hb5.mono (Nat.le_of_lt hlt5)))
  have HZ4 := Lib.hid (show W.heap.size < u4.heap.size by have h1 := Blk.lt HK1.out; have h2 := HR4.out.dn.keep.1; omega)
  rw [← hW5]
  obtain ⟨b5, hb5'⟩ : ∃ b5, b5 = u5.heap.size := ⟨_, rfl⟩
  rw [← hb5'] at HC5 ⊢
  obtain ⟨R0, hR0⟩ : ∃ R0, R0 = W.heap.size := ⟨_, rfl⟩
  have HR0e := Lib.hid hR0
  rw [← hR0] at HKZ ⊢
  obtain ⟨m, hm⟩ : ∃ m, m = x2.length := ⟨_, rfl⟩
  rw [← hm] at HC5 HOW ⊢
  have HM := Lib.hid hm
  clear hk5 hb5 hW5 hb5' hR0 hm hlt5 HB1 HBK HW1
  obtain ⟨⟨z0, z1, z2⟩, f0, f1, f2⟩ := blk3 HKZ.out
  obtain ⟨⟨y0, y1, y2⟩, _⟩ := blk3 HC5.out
  cases t2
  case true =>
    go_wp2_with (go_at_call 24; (with_reducible refine (torn_s HRW.out).mono ?_); rintro x v1 ⟨rfl, rfl⟩)
    have hF := st3_blk (v0 := (.int .u64 0)) (v1 := (.int .i64 0)) (v2 := (.slice none 0 0)) HKZ.out
    have hB8 := st3_below (v0 := (.int .u64 0)) (v1 := (.int .i64 0)) (v2 := (.slice none 0 0)) HBW.out (show W.heap.size ≤ R0 from Nat.le_of_eq HR0e.out.symm)
    change bodyPost _ _ _ _ _ (st3 W5 R0 (.int .u64 0) (.int .i64 0) (.slice none 0 0))
    generalize st3 W5 R0 (.int .u64 0) (.int .i64 0) (.slice none 0 0) = WF at hF hB8 ⊢
    obtain ⟨⟨g0, g1, g2⟩, _⟩ := blk3 hF
    refine bodyPost_ret (v := .tuple #[.agg #[.int .u64 0, .int .i64 0, .slice none 0 0], .int .i64 21]) (by simp [results, Try.results16, go_sem, g0, g1, g2]) rfl ?_
    exact .inr ⟨(fun h => by have := G2.out h.1; cases this), rfl, hB8⟩
  case false =>
    by_cases he0 : e = 0
    · subst he0
      go_wp2_with (go_at_call 24; (with_reducible refine (torn_s HRW.out).mono ?_); rintro x v1 ⟨rfl, rfl⟩)
      have hF := st3_blk (v0 := (.int .u64 n)) (v1 := (.int .i64 ((0 : Nat) : Int))) (v2 := (.slice A5 m c5)) HKZ.out
      have hB8 := st3_below (v0 := (.int .u64 n)) (v1 := (.int .i64 ((0 : Nat) : Int))) (v2 := (.slice A5 m c5)) HBW.out (show W.heap.size ≤ R0 from Nat.le_of_eq HR0e.out.symm)
      have hO8 := st3_own (g := R0) (v0 := (.int .u64 n)) (v1 := (.int .i64 ((0 : Nat) : Int))) (v2 := (.slice A5 m c5)) HOW.out (fun e => by have := own_base HOW.out _ e.symm; have := HR0e.out; have := HZ4.out; omega)
      change bodyPost _ _ _ _ _ (st3 W5 R0 (.int .u64 n) (.int .i64 ((0 : Nat) : Int)) (.slice A5 m c5))
      generalize st3 W5 R0 (.int .u64 n) (.int .i64 ((0 : Nat) : Int)) (.slice A5 m c5) = WF at hF hB8 hO8 ⊢
      obtain ⟨⟨g0, g1, g2⟩, _⟩ := blk3 hF
      refine bodyPost_ret (v := .tuple #[.agg #[.int .u64 n, .int .i64 ((0 : Nat) : Int), .slice A5 m c5], .int .i64 0]) (by simp [results, Try.results16, go_sem, g0, g1, g2]) rfl ?_
      obtain ⟨q1, q2, q3, q4⟩ := G1.out (by first | rfl | trivial)
      refine .inl ⟨A5, m, c5, ⟨q1, .inl q3.symm⟩, by rw [HM.out, q4], own_le hO8, ?_, ?_, hB8⟩
      · rw [← q2, ← q3]
      · rw [← q4]; exact Kd.C_of_reads (d := (0 : Int)) (own_reads' hO8)
    · have HE0 := Lib.hid he0
      have j1 : ((e : Int) != 0) = true := by simp; omega
      have j2 : ¬ (e : Int) = 0 := by omega
      by_cases hm0 : 0 < m
      · have HM0 := Lib.hid hm0
        have j3 : decide ((m : Int) > 0) = true := by simp; omega
        have j4 : (0 : Int) < (m : Int) := by omega
        clear he0 hm0
        go_wp2_with (go_at_call 24; (with_reducible refine (torn_s HRW.out).mono ?_); rintro x v1 ⟨rfl, rfl⟩)
        have hF := st3_blk (v0 := (.int .u64 0)) (v1 := (.int .i64 0)) (v2 := (.slice none 0 0)) HKZ.out
        have hB8 := st3_below (v0 := (.int .u64 0)) (v1 := (.int .i64 0)) (v2 := (.slice none 0 0)) HBW.out (show W.heap.size ≤ R0 from Nat.le_of_eq HR0e.out.symm)
        change bodyPost _ _ _ _ _ (st3 W5 R0 (.int .u64 0) (.int .i64 0) (.slice none 0 0))
        generalize st3 W5 R0 (.int .u64 0) (.int .i64 0) (.slice none 0 0) = WF at hF hB8 ⊢
        obtain ⟨⟨g0, g1, g2⟩, _⟩ := blk3 hF
        refine bodyPost_ret (v := .tuple #[.agg #[.int .u64 0, .int .i64 0, .slice none 0 0], .int .i64 21]) (by simp [results, Try.results16, go_sem, g0, g1, g2]) rfl ?_
        exact .inr ⟨(fun h => by obtain ⟨q1, q2, q3, q4⟩ := G1.out (by first | rfl | trivial); have := h.2; have := HE0.out; have := HM0.out; have := HM.out; rw [q4] at this; rw [← q3] at *; omega), rfl, hB8⟩
      · have hm1 : m = 0 := by omega
        have j3 : decide ((m : Int) > 0) = false := by simp; omega
        have j4 : ¬ (0 : Int) < (m : Int) := by omega
        have HM1 := Lib.hid hm1
        clear he0 hm0 hm1
        go_wp2_with (go_at_call 24; (with_reducible refine (torn_s HRW.out).mono ?_); rintro x v1 ⟨rfl, rfl⟩)
        have hF := st3_blk (v0 := (.int .u64 n)) (v1 := (.int .i64 e)) (v2 := (.slice A5 m c5)) HKZ.out
        have hB8 := st3_below (v0 := (.int .u64 n)) (v1 := (.int .i64 e)) (v2 := (.slice A5 m c5)) HBW.out (show W.heap.size ≤ R0 from Nat.le_of_eq HR0e.out.symm)
        have hO8 := st3_own (g := R0) (v0 := (.int .u64 n)) (v1 := (.int .i64 e)) (v2 := (.slice A5 m c5)) HOW.out (fun e => by have := own_base HOW.out _ e.symm; have := HR0e.out; have := HZ4.out; omega)
        change bodyPost _ _ _ _ _ (st3 W5 R0 (.int .u64 n) (.int .i64 e) (.slice A5 m c5))
        generalize st3 W5 R0 (.int .u64 n) (.int .i64 e) (.slice A5 m c5) = WF at hF hB8 hO8 ⊢
        obtain ⟨⟨g0, g1, g2⟩, _⟩ := blk3 hF
        refine bodyPost_ret (v := .tuple #[.agg #[.int .u64 n, .int .i64 e, .slice A5 m c5], .int .i64 0]) (by simp [results, Try.results16, go_sem, g0, g1, g2]) rfl ?_
        obtain ⟨q1, q2, q3, q4⟩ := G1.out (by first | rfl | trivial)
        refine .inl ⟨A5, m, c5, ⟨q1, .inr (by rw [← q4, ← HM.out]; exact HM1.out)⟩, by rw [HM.out, q4], own_le hO8, ?_, ?_, hB8⟩
        · rw [← q2, ← q3]
        · rw [← q4]; exact Kd.C_of_reads (d := (0 : Int)) (own_reads' hO8)
end Go.Proofs.Ytckcnanklekchaa.Rep
