/- StripeCuts: the program's Cut and Join. -/
import Derived.Test.YtjoblpkfpfclpaaProg
import Derived.Below
import Derived.Deep.Draws
import Derived.Deep.AppendLies
import Derived.Maps.AppendAt
import Derived.OwnWalk
import Derived.Laws.BytesArg
import Derived.Laws.MakeOwn
import Derived.Laws.OwnMore
import Derived.Deep.OwnRows
import Derived.Tactics
import Derived.Lib.ConvBytes
import Derived.Laws.Slices
import Derived.WalkKit
import Derived.KernelRfl
import Derived.RowKit3
import Derived.Deep.LoopGhost
import Derived.Deep.QuietTactic
import Derived.BigQuiet
import Derived.WideLaws
import Derived.Deep.DeepCutAuto
import Derived.Deep.CutBlock
import Derived.Deep.RegionHeld3
import Derived.Laws.Rows
import Derived.Lib.AppendStr
import Derived.ArgAppend
import Derived.Laws.IdiomCopy
import Derived.OrdersHeld
import Derived.Laws.BitsLemmas
import Derived.RowKit
import Derived.Lib.Hide
import Derived.WalkSpells
import Derived.StillTailTactics
import Derived.Outline
import Derived.Test.YtjoblpkfpfclpaaRows1
import Derived.Test.YtjoblpkfpfclpaaBStripePlansCuts1
namespace Go.Proofs.Ytjoblpkfpfclpaa.Str
open Go Go.RowKit Go.Proofs.Ytjoblpkfpfclpaa.Gf Go.Proofs.Ytjoblpkfpfclpaa.Bits Go.Proofs.Ytjoblpkfpfclpaa.Mem Go.Proofs.Ytjoblpkfpfclpaa.Rws Go.Proofs.YtjoblpkfpfclpaaW.PrintWords Go.Proofs.YtjoblpkfpfclpaaW.PrintLast
set_option linter.unusedVariables false

set_option maxRecDepth 100000 in
/-- Cut is refused: no code, or a length that is not the plan's, or no piece. -/
theorem cut_none (a b p : Int) (A : Option Addr) (m c : Nat) (w : World) :
    Calls Try.prog 16 #[.pointer none, planV a b p, .slice A m c] w fun e w' => e = .returned (.tuple #[.slice none 0 0, .int .i64 1]) ∧ Below w.heap.size w w' := by
  unfold planV
  have HB := Lib.hid ((Below.refl w.heap.size w).alloc (Nat.le_refl _) (.cells #[.int .i64 a, .int .i64 b, .int .i64 p] 29))
  go_enter Try.func16, Try.ntmps16
  go_wp2
  go_ret2
  exact ⟨rfl, HB.out⟩
theorem seg_pad (S : Nat) (b : List Int) (i m : Nat) (hm : m = b.length - i * S) : (b.drop (i * S)).take (min m S) ++ (List.replicate S (0 : Int)).drop (min m S) = pad S (seg S b i) := by
  have hsl := seg_len S b i
  unfold pad
  rw [hsl, List.drop_replicate]
  have e1 : min S (b.length - i * S) = min m S := by omega
  rw [e1]
  congr 1
  unfold seg
  rcases Nat.le_total m S with h | h
  · rw [Nat.min_eq_left h, List.take_of_length_le (by simp; omega), List.take_of_length_le (by simp; omega)]
  · rw [Nat.min_eq_right h]
def sliceLen : Value → Nat
  | .slice _ n _ => n
  | _ => 0
set_option maxRecDepth 100000 in
set_option maxHeartbeats 2000000 in
/-- Cut: the stripes. -/
theorem cut_yes (n k s p S c : Nat) (cnt : Int) (v : Value) (A : Option Addr) (L cp : Nat) (b : List Int) (w : World) (hc : IsCode w v n k) (k1 : 1 ≤ k) (k2 : k ≤ 8) (hs : k * (k - 1) = s) (hS : s * p = S) (hS1 : 1 ≤ S) (hS2 : S ≤ 20000) (hp : 1 ≤ p) (hp2 : p ≤ 20000)
    (hr : (Kd.int .u8).C w A L b) (hL : L = b.length) (hcp : L ≤ cp) (hL1 : L ≤ 100000) (hc0 : L ≤ c * S) (hc1 : ∀ i, i < c → i * S < L) (hc2 : c ≤ 1000) :
    Calls Try.prog 16 #[v, planV L cnt p, .slice A L cp] w fun e w' => ∃ u, e = .returned (.tuple #[u, .int .i64 0]) ∧ RowsR w' w.heap.size u (cutL S b c) ∧ Below w.heap.size w w' := by
  unfold planV
  obtain ⟨W1, hW1⟩ : ∃ W1, W1 = w.alloc (.cells #[.int .i64 L, .int .i64 cnt, .int .i64 p] 29) := ⟨_, rfl⟩
  have hb1 : Below w.heap.size w W1 := by rw [hW1]; exact (Below.refl _ _).alloc (Nat.le_refl _) _
  have hblk : Blk W1 w.heap.size 29 #[.int .i64 L, .int .i64 cnt, .int .i64 p] := by rw [hW1]; exact Blk.new _ _ _
  have y0 : W1.cell? ⟨w.heap.size, 0, none⟩ = some (.int .i64 L) := (hblk.cell 0).trans rfl
  have y1 : W1.cell? ⟨w.heap.size, 1, none⟩ = some (.int .i64 cnt) := (hblk.cell 1).trans rfl
  have y2 : W1.cell? ⟨w.heap.size, 2, none⟩ = some (.int .i64 p) := (hblk.cell 2).trans rfl
  have HW1 := Lib.hid hW1
  have HB1 := Lib.hid hb1
  have MC := Lib.hid (message_any (L : Int) cnt p v n k s S W1 (hc.below hb1) k1 k2 hs hp2 hS)
  obtain ⟨b0, A0, c00, rfl, _⟩ := hc
  have HRD := Lib.hid (Kd.reads_of_C (d := (0 : Int)) hr)
  have e1 : ¬ (p : Int) < 1 := by omega
  have e2 : decide ((p : Int) < 1) = false := by simp; omega
  have HC0 := Lib.hid hc0
  have HC1 := Lib.hid hc1
  have HC2 := Lib.hid hc2
  have HL := Lib.hid hL
  have HL1 := Lib.hid hL1
  have HS1 := Lib.hid hS1
  have HS2 := Lib.hid hS2
  have HCP := Lib.hid hcp
  clear hW1 hb1 hblk hr hL hcp hL1 hc0 hc1 hc2 hS1 hS2 hS hs hp hp2 k1 k2
  go_enter Try.func16, Try.ntmps16
  go_upto_region 1 with (fail)
  rw [← HW1.out]
  go_wp2_with (go_at_call 13; (with_reducible refine MC.out.mono ?_); rintro e w1 ⟨rfl, hb⟩; have HB2 := Lib.hid (HB1.out.trans (hb.mono HB1.out.size)); clear hb)
  go_loopw [2, 9, 10, 11] (fun bv u _ _ wr => ∃ (i m : Nat) (A' : Option Addr) (c' : Nat), bv = .slice A' m c' ∧ Hid (m = L - i * S) ∧ Hid (i ≤ c) ∧ Hid (m ≤ c') ∧ Hid (ReadsInt w .u8 A' m (b.drop (i * S))) ∧ Hid (RowsR wr w.heap.size u (cutL S b i)) ∧ Hid (Below w.heap.size w wr)) (fun bv _ _ _ _ => sliceLen bv)
  case atStart => exact ⟨0, L, A, cp, rfl, Lib.hid (by omega), Lib.hid (by omega), Lib.hid HCP.out, Lib.hid (by simp only [Nat.zero_mul, List.drop_zero]; exact HRD.out), Lib.hid (Kd.R_nil _ _ _ _ _), HB2⟩
  case round =>
    obtain ⟨i, m, A', c', rfl, HM, HI, HMC, HR, HRR, HBW⟩ := hrel
    by_cases h0 : 0 < m
    · have j0 : (0 : Int) < (m : Int) := by omega
      have j1 : decide ((m : Int) > 0) = true := by simp; omega
      obtain ⟨q, hq⟩ : ∃ q, q = min m S := ⟨_, rfl⟩
      have HQ := Lib.hid hq
      obtain ⟨i0, hi, hz⟩ := Option.map_eq_some_iff.1 info_byte
      simp only [Prod.mk.injEq] at hz
      have k2 := cut_from (P := Try.prog) 38 5 .i64 Try.underlying38 hi 1 hz.2.1 A' m c' (q : Int) (by omega) (by omega)
      simp only [Int.toNat_natCast, Nat.mul_one] at k2
      obtain ⟨A2, hA2⟩ : ∃ A2, A2 = if c' = q then A' else A'.map (·.add q) := ⟨_, rfl⟩
      rw [← hA2] at k2
      have HR2 := Lib.hid (show ReadsInt w .u8 A2 (m - q) ((b.drop (i * S)).drop q) by rw [hA2]; exact HR.out.drop_ q (by omega) HMC.out)
      clear hz hi hA2 hq
      go_wp2_with (first
        | (at_make; refine Kd.R_make (Kd.int .u8) wr.heap.size 5 rfl (N := 33) rfl 38 _ _ rfl (S : Int) rfl rfl Try.underlying38 (.int .u8 0) 1 info_byte rfl (by decide) (by decide) 0 (ok := fun _ => True) (okp := fun _ => True) rfl (fun _ hk => hk) trivial (by omega) (by have := HS2.out; omega) (Below.refl _ _) (Nat.le_refl _) ?_; intro v3 w3 h3 hb3 hg3 hf3; simp only [Int.toNat_natCast] at h3; obtain ⟨A3, c3, hv3⟩ := own_slice (Kd.own_of_R h3); rw [List.length_replicate] at hv3; subst hv3; have HX := Lib.hid h3; have HB3 := Lib.hid hb3; clear h3 hb3 hg3 hf3)
        | (refine gate_ (.call { callee := .builtin .copy, args := #[.tmp 34, .tmp 35], argTypes := #[38, 38] }) rfl ?_; refine Kd.R_copy (enc := Value.int .u8) (0 : Int) wr.heap.size rfl _ _ 38 38 5 rfl Try.underlying38 info_byte1 (.slice A3 S c3) (List.replicate S 0) (b.drop (i * S)) A' m c' (fun _ => True) rfl rfl HX.out (Kd.C_of_reads (d := (0 : Int)) (HR.out.below (HBW.out.trans (HB3.out.mono HBW.out.size)))) HB3.out HB3.out.size ?_; intro w4 h4 hb4 hg4; simp only [List.length_replicate] at h4 ⊢; rw [← HQ.out]; have HY := Lib.hid h4; have HB4 := Lib.hid hb4; clear h4 hb4 hg4)
        | (at_builtin; refine rows_append2 rfl w.heap.size rfl _ _ rfl _ _ _ _ rfl rfl HRR.out (HBW.out.trans (HB4.out.mono HBW.out.size)) HBW.out.size HB4.out HY.out (by rw [cutL_len]; have := HI.out; have := HC2.out; omega) ?_; intro v5 w5 h5 hb5; have H5 := Lib.hid h5; have HB5 := Lib.hid hb5; clear h5 hb5))
      go_roundw
      case rel => 
        refine ⟨i + 1, m - q, A2, c' - q, rfl, Lib.hid ?_, Lib.hid ?_, Lib.hid ?_, Lib.hid ?_, Lib.hid ?_, HB5⟩
        · have := HM.out; have := HQ.out; rw [Nat.add_mul, Nat.one_mul]; omega
        · have := HI.out; have := HM.out; have := HC0.out
          rcases Nat.lt_or_ge i c with h | h
          · omega
          · have : i = c := by omega
            subst this; omega
        · have := HMC.out; omega
        · have hh := HR2.out
          have e : (b.drop (i * S)).drop q = b.drop ((i + 1) * S) := by
            have := HM.out; have := HQ.out; have := HL.out
            rw [List.drop_drop, Nat.add_mul, Nat.one_mul]
            rcases Nat.le_total m S with h | h
            · rw [List.drop_of_length_le (by omega), List.drop_of_length_le (by omega)]
            · rw [show q = S by omega]
          rw [e] at hh; exact hh
        · have hh := H5.out
          rw [cutL_succ, ← seg_pad S b i m (by have := HM.out; have := HL.out; omega)]; simpa only [HQ.out] using hh
      case measure => simp [sliceLen]; have := HQ.out; have := HS1.out; omega
    · obtain rfl : m = 0 := by omega
      have e9 : i = c := by
        have := HM.out; have := HI.out
        rcases Nat.lt_or_ge i c with h | h
        · have := HC1.out i h; omega
        · omega
      subst e9
      go_wp2
      go_ret2
      exact ⟨_, rfl, HRR.out, HBW.out⟩
end Go.Proofs.Ytjoblpkfpfclpaa.Str
