/- StripeCuts: the reference's Cut. -/
import Derived.Test.YtjoblpkfpfclpaaProg
import Derived.Below
import Derived.Deep.Draws
import Derived.Deep.AppendLies
import Derived.Maps.AppendAt
import Derived.OwnWalk
import Derived.Laws.BytesArg
import Derived.Laws.MakeOwn
import Derived.Laws.OwnMore
import Derived.Deep.OwnRows
import Derived.Tactics
import Derived.Lib.ConvBytes
import Derived.Laws.Slices
import Derived.WalkKit
import Derived.KernelRfl
import Derived.RowKit3
import Derived.Deep.LoopGhost
import Derived.Deep.QuietTactic
import Derived.BigQuiet
import Derived.WideLaws
import Derived.Deep.DeepCutAuto
import Derived.Deep.CutBlock
import Derived.Deep.RegionHeld3
import Derived.Laws.Rows
import Derived.Lib.AppendStr
import Derived.ArgAppend
import Derived.Laws.IdiomCopy
import Derived.OrdersHeld
import Derived.Laws.BitsLemmas
import Derived.RowKit
import Derived.Lib.Hide
import Derived.WalkSpells
import Derived.StillTailTactics
import Derived.Outline
import Derived.Test.YtjoblpkfpfclpaaBStripePlansCuts4
namespace Go.Proofs.Ytjoblpkfpfclpaa.Str
open Go Go.RowKit Go.Proofs.Ytjoblpkfpfclpaa.Gf Go.Proofs.Ytjoblpkfpfclpaa.Bits Go.Proofs.Ytjoblpkfpfclpaa.Mem Go.Proofs.Ytjoblpkfpfclpaa.Rws Go.Proofs.YtjoblpkfpfclpaaW.PrintWords Go.Proofs.YtjoblpkfpfclpaaW.PrintLast
set_option linter.unusedVariables false

set_option maxRecDepth 100000 in
set_option maxHeartbeats 2000000 in
theorem refcut_any (k s p S c L N : Nat) (A : Option Addr) (cp : Nat) (b : List Int) (w : World) (k1 : 1 ≤ k) (k2 : k ≤ 8) (hs : k * (k - 1) = s) (hS : s * p = S) (hS1 : 1 ≤ S) (hS2 : S ≤ 20000) (hp2 : p ≤ 20000)
    (hr : (Kd.int .u8).C w A N b) (hL : N = b.length) (hcp : N ≤ cp) (hL1 : N ≤ 100000) (hc1 : ∀ i, i < c → i * S < N) (hc2 : c ≤ 1000) :
    Calls Try.prog 18 #[.int .i64 k, planV L c p, .slice A N cp] w fun e w' => ∃ u, e = .returned u ∧ RowsR w' w.heap.size u (cutL S b c) ∧ Below w.heap.size w w' := by
  unfold planV
  obtain ⟨W1, hW1⟩ : ∃ W1, W1 = w.alloc (.cells #[.int .i64 L, .int .i64 c, .int .i64 p] 32) := ⟨_, rfl⟩
  have hb1 : Below w.heap.size w W1 := by rw [hW1]; exact (Below.refl _ _).alloc (Nat.le_refl _) _
  have hblk : Blk W1 w.heap.size 32 #[.int .i64 L, .int .i64 c, .int .i64 p] := by rw [hW1]; exact Blk.new _ _ _
  obtain ⟨P0, hP0⟩ : ∃ P0, P0 = w.heap.size := ⟨_, rfl⟩
  rw [← hP0] at hblk
  have y0 : W1.cell? ⟨P0, 0, none⟩ = some (.int .i64 L) := (hblk.cell 0).trans rfl
  have y1 : W1.cell? ⟨P0, 1, none⟩ = some (.int .i64 c) := (hblk.cell 1).trans rfl
  have y2 : W1.cell? ⟨P0, 2, none⟩ = some (.int .i64 p) := (hblk.cell 2).trans rfl
  have HW1 := Lib.hid hW1
  have HP0 := Lib.hid hP0
  have HB1 := Lib.hid hb1
  have HBK := Lib.hid hblk
  have hs56 : s ≤ 56 := by rw [← hs]; exact Nat.mul_le_mul k2 (show k - 1 ≤ 7 by omega)
  have hm : s * p ≤ 56 * 20000 := Nat.mul_le_mul hs56 hp2
  have wa : IntKind.i64.wrap ((k : Int) - 1) = ((k - 1 : Nat) : Int) := by rw [IntWalk.i64_in _ (by omega)]; omega
  obtain ⟨kk, hkk⟩ : ∃ kk, kk = k - 1 := ⟨_, rfl⟩
  rw [← hkk] at wa hs
  have wb : IntKind.i64.wrap ((k : Int) * (kk : Int)) = (s : Int) := by rw [← Int.natCast_mul, hs, IntWalk.i64_in _ (by omega)]
  have wc : IntKind.i64.wrap ((s : Int) * (p : Int)) = (S : Int) := by rw [← Int.natCast_mul, hS, IntWalk.i64_in _ (by omega)]
  have HC := Lib.hid hr
  have HN := Lib.hid hL
  have HC1 := Lib.hid hc1
  have HC2 := Lib.hid hc2
  have HL1 := Lib.hid hL1
  have HS1 := Lib.hid hS1
  have HS2 := Lib.hid hS2
  clear hs56 hm hkk hW1 hb1 hblk hP0 hr hL hcp hL1 hc1 hc2 hS1 hS2 hS hs hp2 k1 k2
  go_enter Try.func18, Try.ntmps18
  go_upto_region 1 with (fail)
  rw [← HW1.out, ← HP0.out]
  go_wp2
  go_loopw [8, 9, 10, 11] (fun u iv _ _ wr => ∃ (i : Nat), i ≤ c ∧ iv = .int .i64 i ∧ Hid (RowsR wr W1.heap.size u (cutL S b i)) ∧ Hid (Below W1.heap.size W1 wr)) (fun _ iv _ _ _ => c - (intOf iv).toNat)
  case atStart => exact ⟨0, by omega, rfl, Lib.hid (Kd.R_nil _ _ _ _ _), Lib.hid (Below.refl _ _)⟩
  case round =>
    obtain ⟨i, hic, rfl, HRR, HBW⟩ := hrel
    have HBw := Lib.hid (HB1.out.trans (HBW.out.mono HB1.out.size))
    obtain ⟨x0, x1, x2⟩ : wr.cell? ⟨P0, 0, none⟩ = some (.int .i64 L) ∧ wr.cell? ⟨P0, 1, none⟩ = some (.int .i64 c) ∧ wr.cell? ⟨P0, 2, none⟩ = some (.int .i64 p) := by
      have h := Blk.below HBK.out HBW.out (Blk.lt HBK.out)
      exact ⟨(h.cell 0).trans rfl, (h.cell 1).trans rfl, (h.cell 2).trans rfl⟩
    clear y0 y1 y2
    have hc1000 := HC2.out
    by_cases hlt : i < c
    · have hiS := HC1.out i hlt
      have hN1 := HL1.out
      have wd : IntKind.i64.wrap ((i : Int) * (S : Int)) = ((i * S : Nat) : Int) := by rw [← Int.natCast_mul, IntWalk.i64_in _ (by omega)]
      obtain ⟨o, ho⟩ : ∃ o, o = i * S := ⟨_, rfl⟩
      rw [← ho] at wd hiS
      have HO := Lib.hid ho
      have hsl := seg_len S b i
      rw [← ho, ← HN.out] at hsl
      have HSL := Lib.hid hsl
      have i0 : (i : Int) < (c : Int) := by omega
      clear ho hsl
      go_wp2_with (at_make; refine Kd.R_make (Kd.int .u8) wr.heap.size 5 rfl (N := 26) rfl 38 _ _ rfl (S : Int) rfl rfl Try.underlying38 (.int .u8 0) 1 info_byte rfl (by decide) (by decide) 0 (ok := fun _ => True) (okp := fun _ => True) rfl (fun _ hk => hk) trivial (by omega) (by have := HS2.out; omega) (Below.refl _ _) (Nat.le_refl _) ?_; intro v3 w3 h3 hb3 hg3 hf3; simp only [Int.toNat_natCast] at h3; obtain ⟨g, c3, hv3, hgb, _, _, _⟩ := Kd.R_form h3 (by rw [List.length_replicate]; exact HS1.out); rw [List.length_replicate] at hv3; subst hv3; have HX := Lib.hid h3; have HB3 := Lib.hid hb3; have HGB := Lib.hid hgb; clear h3 hb3 hg3 hf3 hgb)
      go_loopw [11] (fun jv wr' => ∃ (j : Nat), j ≤ (seg S b i).length ∧ jv = .int .i64 j ∧ Hid ((Kd.int .u8).R 5 wr' wr.heap.size (fun _ => True) (.slice (some ⟨g, 0, none⟩) S c3) ((seg S b i).take j ++ List.replicate (S - j) 0)) ∧ Hid (Below wr.heap.size wr wr')) (fun jv _ => S - (intOf jv).toNat)
      case atStart => exact ⟨0, by omega, rfl, Lib.hid (by simpa using HX.out), HB3⟩
      case round =>
        obtain ⟨j, hj, rfl, HX2, HB4⟩ := hrel
        have hs2 := HS2.out
        have hsl := HSL.out
        have HB5 := Lib.hid (HBw.out.trans (HB4.out.mono HBw.out.size))
        have we : IntKind.i64.wrap ((o : Int) + (j : Int)) = ((o + j : Nat) : Int) := by rw [IntWalk.i64_in _ (by omega)]; omega
        by_cases hjl : j < (seg S b i).length
        · have hjS : j < S := by omega
          have hoN : o + j < N := by omega
          obtain ⟨ad, rfl, hcell⟩ := Kd.at_int HC.out ((o + j : Nat) : Int) (by omega) (by omega)
          obtain ⟨t1, t2⟩ := Kd.R_celln (0 : Int) HX2.out (j : Int) (by omega) (by omega)
          replace hcell := pw_cell_below HB5.out hcell
          have hpn := Kd.R_putn HX2.out (j : Int) (rd b ((o + j : Nat) : Int))
          simp only [Int.toNat_natCast] at hcell t1 t2 hpn
          obtain ⟨x, hx⟩ : ∃ x, x = rd b ((o + j : Nat) : Int) := ⟨_, rfl⟩
          rw [← hx] at hcell hpn
          have hset : ((seg S b i).take j ++ List.replicate (S - j) 0).set j x = (seg S b i).take (j + 1) ++ List.replicate (S - (j + 1)) 0 := by
            have e1 : S - j = (S - (j + 1)) + 1 := by omega
            have e2 : ((seg S b i).take j).length = j := by simp; omega
            have e3 : x = (seg S b i)[j] := by
              have hb : o + j < b.length := by rw [← HN.out]; exact hoN
              have ho := HO.out
              subst ho
              rw [hx]; show b.getD (((i * S + j : Nat) : Int)).toNat 0 = _; rw [Int.toNat_natCast, List.getD_eq_getElem?_getD, List.getElem?_eq_getElem hb]; simp [seg]
            rw [e1]
            have := set_mid ((seg S b i).take j) (S - (j + 1)) x
            rw [e2] at this
            rw [this, List.take_succ_eq_append_getElem hjl, e3]
          rw [hset] at hpn
          have HPN := Lib.hid hpn
          have HBn := Lib.hid (HB4.out.setCell (p := ⟨g, j, none⟩) HGB.out (.int .u8 x))
          have q1 : (j : Int) < (S : Int) := by omega
          have q2 : ((o + j : Nat) : Int) < (N : Int) := by omega
          have q3 : (0 : Int) ≤ ((o + j : Nat) : Int) := by omega
          have q4 : (0 : Int) ≤ (j : Int) := by omega
          have q5 : decide (((o + j : Nat) : Int) < (N : Int)) = true := by simp; omega
          clear hpn hset hx
          obtain ⟨oj, hoj⟩ : ∃ oj, oj = o + j := ⟨_, rfl⟩
          rw [← hoj] at we q2 q3 q5 hcell
          clear hoj hoN
          go_wp2
          go_roundw
          case rel => exact ⟨j + 1, by omega, by go_num, HPN, HBn⟩
          case measure => simp [intOf]; omega
        · have hje : j = (seg S b i).length := by omega
          have hpad : (seg S b i).take j ++ List.replicate (S - j) 0 = pad S (seg S b i) := by rw [hje, List.take_length]; rfl
          rw [hpad] at HX2
          by_cases hjS : j < S
          · have q1 : (j : Int) < (S : Int) := by omega
            have q2 : ¬ ((o + j : Nat) : Int) < (N : Int) := by omega
            obtain ⟨oj, hoj⟩ : ∃ oj, oj = o + j := ⟨_, rfl⟩
            rw [← hoj] at we q2
            have q5 : decide ((oj : Int) < (N : Int)) = false := by simp; omega
            clear hoj hje hpad
            go_wp2_with (at_builtin; refine rows_append2 rfl W1.heap.size rfl _ _ rfl _ _ _ _ rfl rfl HRR.out (HBW.out.trans (HB4.out.mono HBW.out.size)) HBW.out.size HB4.out HX2.out (by rw [cutL_len]; omega) ?_; intro v5 w5 h5 hb5; have H5 := Lib.hid h5; have HB6 := Lib.hid hb5; clear h5 hb5)
            go_roundw
            case rel => exact ⟨i + 1, by omega, by go_num, Lib.hid (by rw [cutL_succ]; exact H5.out), HB6⟩
            case measure => simp [intOf]; omega
          · have q1 : ¬ (j : Int) < (S : Int) := by omega
            have q5 : decide ((j : Int) < (S : Int)) = false := by simp; omega
            clear hje hpad we
            go_wp2_with (at_builtin; refine rows_append2 rfl W1.heap.size rfl _ _ rfl _ _ _ _ rfl rfl HRR.out (HBW.out.trans (HB4.out.mono HBW.out.size)) HBW.out.size HB4.out HX2.out (by rw [cutL_len]; omega) ?_; intro v5 w5 h5 hb5; have H5 := Lib.hid h5; have HB6 := Lib.hid hb5; clear h5 hb5)
            go_roundw
            case rel => exact ⟨i + 1, by omega, by go_num, Lib.hid (by rw [cutL_succ]; exact H5.out), HB6⟩
            case measure => simp [intOf]; omega
    · obtain rfl : i = c := by omega
      have i0 : ¬ (i : Int) < (i : Int) := by omega
      go_wp2
      go_ret
      exact ⟨_, rfl, Kd.R_lower HRR.out HB1.out.size, HBw.out⟩
end Go.Proofs.Ytjoblpkfpfclpaa.Str
