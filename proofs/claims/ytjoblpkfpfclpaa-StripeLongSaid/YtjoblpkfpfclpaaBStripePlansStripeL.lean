/- The statement StripeLong: an object that is too long. -/
import Derived.Test.YtjoblpkfpfclpaaProg
import Derived.Below
import Derived.Deep.Draws
import Derived.Deep.AppendLies
import Derived.Maps.AppendAt
import Derived.OwnWalk
import Derived.Laws.BytesArg
import Derived.Laws.MakeOwn
import Derived.Laws.OwnMore
import Derived.Deep.OwnRows
import Derived.Tactics
import Derived.Lib.ConvBytes
import Derived.Laws.Slices
import Derived.WalkKit
import Derived.KernelRfl
import Derived.RowKit3
import Derived.Deep.LoopGhost
import Derived.Deep.QuietTactic
import Derived.BigQuiet
import Derived.WideLaws
import Derived.Deep.DeepCutAuto
import Derived.Deep.CutBlock
import Derived.Deep.RegionHeld3
import Derived.Laws.Rows
import Derived.Lib.AppendStr
import Derived.ArgAppend
import Derived.Laws.IdiomCopy
import Derived.OrdersHeld
import Derived.Laws.BitsLemmas
import Derived.RowKit
import Derived.Lib.Hide
import Derived.WalkSpells
import Derived.Outline
import Derived.ProofKit
import Derived.Test.YtjoblpkfpfclpaaBStripePlansStripe4
namespace Go.Proofs.Ytjoblpkfpfclpaa.Str
open Go Go.RowKit Go.Proofs.Ytjoblpkfpfclpaa.PStripePlans Go.Proofs.Ytjoblpkfpfclpaa.BStripePlans Go.Proofs.Ytjoblpkfpfclpaa.Gf Go.Proofs.Ytjoblpkfpfclpaa.Bits Go.Proofs.Ytjoblpkfpfclpaa.Mem Go.Proofs.Ytjoblpkfpfclpaa.VPts Go.Proofs.YtjoblpkfpfclpaaW.PrintWords Go.Proofs.YtjoblpkfpfclpaaW.PrintLast
set_option linter.unusedVariables false
set_option maxRecDepth 100000 in
theorem spread_long (b : Nat) (p n : Int) (A : Option Addr) (c m : Nat) (w : World) (h2 : ¬ p < 1) (h3 : ¬ 256 < p) (h4 : 16384 < m) :
    Calls Try.prog 21 #[.pointer (some ⟨b, 0, none⟩), .int .i64 p, .slice A m c] w fun e w' => e = .returned (.tuple #[planV 0 0 0, .slice none 0 0, .int .i64 29]) ∧ Below w.heap.size w w' := by
  have hz := zero_plan
  have OL := Lib.hid (fun W => of_long b (m : Int) p W (by omega) h2 h3 (by omega))
  clear h2 h3 h4
  go_enter Try.func21, Try.ntmps21
  go_upto_region 3 with (go_at_call 10; (with_reducible refine (OL.out _).mono ?_); rintro e w1 ⟨rfl, hb⟩; have H6 := Lib.hid (Blk.below (Blk.new _ _ _) hb (by simp)); have HB := Lib.hid (((Below.refl _ _).alloc (Nat.le_refl _) _).trans (hb.mono (by simp))); clear hb)
  have A6 := Lib.hid (H6.out.alloc (.cells #[.int .i64 0, .int .i64 0, .int .i64 0] 29))
  have AB := Lib.hid (HB.out.alloc HB.out.size (.cells #[.int .i64 0, .int .i64 0, .int .i64 0] 29))
  clear H6 HB
  obtain ⟨W, hW⟩ : ∃ W, W = w1.alloc (.cells #[.int .i64 0, .int .i64 0, .int .i64 0] 29) := ⟨_, rfl⟩
  rw [← hW] at A6 AB ⊢
  clear hW
  have c0 := (A6.out.cell 0).trans rfl
  have c1 := (A6.out.cell 1).trans rfl
  have c2 := (A6.out.cell 2).trans rfl
  simp at c0 c1 c2
  have z0 := A6.out.frozen 0
  have z1 := A6.out.frozen 1
  have z2 := A6.out.frozen 2
  go_wp2
  have B3 := ((A6.out.set_ 0 (.int .i64 0)).set_ 1 (.int .i64 0)).set_ 2 (.int .i64 0)
  have k0 := (B3.cell 0).trans rfl
  have k1 := (B3.cell 1).trans rfl
  have k2 := (B3.cell 2).trans rfl
  refine bodyPost_ret (v := .tuple #[planV 0 0 0, .slice none 0 0, .int .i64 29]) (by simp [results, Try.results21, go_sem, k0, k1, k2]) rfl ⟨rfl, ?_⟩
  exact ((AB.out.setCell (p := ⟨w.heap.size, 0, none⟩) (Nat.le_refl _) _).setCell (p := ⟨w.heap.size, 1, none⟩) (Nat.le_refl _) _).setCell (p := ⟨w.heap.size, 2, none⟩) (Nat.le_refl _) _
theorem u8_conv (x : Nat) (h : x < 256) : IntKind.i64.wrap (x : Int) = (x : Int) := IntWalk.i64_in _ (by omega)
theorem isCode_alloc {w : World} {v : Value} {n k : Nat} (h : IsCode w v n k) (o : Obj) : IsCode (w.alloc o) v n k := h.below ((Below.refl _ _).alloc (Nat.le_refl _) _)
theorem below_alloc1 {w w' : World} {o : Obj} (h : Below (w.alloc o).heap.size (w.alloc o) w') : Below w.heap.size w w' := ((Below.refl _ _).alloc (Nat.le_refl _) _).trans (h.mono (by simp))
set_option maxRecDepth 100000 in
set_option maxHeartbeats 1000000 in
theorem long_law (m p : Nat) (hm : m < 256) (hp : p < 256) (w : World) :
    Calls Try.prog 6 #[.int .u8 m, .int .u8 p] w fun e w' => e = .returned (.bool true) ∧ Below w.heap.size w w' := by
  have HB := Lib.hid (Below.refl w.heap.size w)
  have NC : Hid (∀ W, Calls Try.prog 9 #[.int .i64 15, .int .i64 8] W fun e w' => ∃ v, e = .returned (.tuple #[v, .int .i64 0]) ∧ IsCode w' v 15 8 ∧ Below W.heap.size W w') := Lib.hid (fun W => new_code 15 8 W (by omega) (by omega) (by omega) (by omega))
  have O1 : Hid (∀ b W, IsCode W (.pointer (some ⟨b, 0, none⟩)) 15 8 → Calls Try.prog 10 #[.pointer (some ⟨b, 0, none⟩), .int .i64 7169, .int .i64 4] W fun e w' => e = planE 0 0 0 29 ∧ Below W.heap.size W w') := Lib.hid (fun b W hc => of_many b 15 8 56 224 7169 4 W hc (by omega) (by omega) rfl rfl (by omega) (by omega) (by omega) (by decide) (by omega) (by omega))
  have O2 : Hid (∀ b W, IsCode W (.pointer (some ⟨b, 0, none⟩)) 15 8 → Calls Try.prog 10 #[.pointer (some ⟨b, 0, none⟩), .int .i64 7168, .int .i64 4] W fun e w' => e = planE 7168 32 4 0 ∧ Below W.heap.size W w') := Lib.hid (fun b W hc => of_few b 15 8 56 224 7168 4 W hc (by omega) (by omega) rfl rfl (by omega) (by omega) (by omega) (by decide) (by omega) (by omega))
  have SL := Lib.hid (fun b A c W => spread_long b ((p : Int) + 1) 0 A c (16385 + m) W (by omega) (by omega) (by omega))
  have km := print_make (P := Try.prog) 38 5 .u8 1 Try.underlying38 info_byte (by decide) (16385 + m) (by omega)
  have e1 : IntKind.i64.wrap (16385 + (m : Int)) = ((16385 + m : Nat) : Int) := by rw [IntWalk.i64_in _ (by omega)]; omega
  have e2 : IntKind.i64.wrap (1 + (p : Int)) = (p : Int) + 1 := by rw [IntWalk.i64_in _ (by omega)]; omega
  have e3 := u8_conv m hm
  have e4 := u8_conv p hp
  obtain ⟨q, hq⟩ : ∃ q, q = 16385 + m := ⟨_, rfl⟩
  rw [← hq] at SL km e1
  clear hm hp hq
  go_enter Try.func6, Try.ntmps6
  go_wp2_with (first
    | (go_at_call 8; (with_reducible refine (awake_calls _).mono ?_); rintro e w1 ⟨rfl, hb⟩; have HBn := Lib.hid (HB.out.trans (hb.mono HB.out.size)); clear HB hb; have HB := HBn; clear HBn)
    | (go_at_call 9; (with_reducible refine (NC.out _).mono ?_); rintro e w1 ⟨v, rfl, hc, hb⟩; obtain ⟨b3, A3, c3, rfl, hblk⟩ := hc; have HC := Lib.hid (show IsCode w1 (.pointer (some ⟨b3, 0, none⟩)) 15 8 from ⟨b3, A3, c3, rfl, hblk⟩); clear hblk; have HBn := Lib.hid (HB.out.trans (hb.mono HB.out.size)); clear HB hb; have HB := HBn; clear HBn)
    | (go_at_call 21; (with_reducible refine (SL.out _ _ _ _).mono ?_); rintro e w3 ⟨rfl, hb⟩; have HCn := Lib.hid ((isCode_alloc HC.out _).below hb); clear HC; have HC := HCn; clear HCn; have hb := below_alloc1 hb; have HBn := Lib.hid (HB.out.trans (hb.mono HB.out.size)); clear HB hb; have HB := HBn; clear HBn)
    | (go_at_call 10; (with_reducible refine (O1.out _ _ (isCode_alloc HC.out _)).mono ?_); rintro e w4 ⟨rfl, hb⟩; have HCn := Lib.hid ((isCode_alloc HC.out _).below hb); clear HC; have HC := HCn; clear HCn; have hb := below_alloc1 hb; have HBn := Lib.hid (HB.out.trans (hb.mono HB.out.size)); clear HB hb; have HB := HBn; clear HBn)
    | (go_at_call 10; (with_reducible refine (O2.out _ _ (isCode_alloc HC.out _)).mono ?_); rintro e w5 ⟨rfl, hb⟩; have hb := below_alloc1 hb; have HBn := Lib.hid (HB.out.trans (hb.mono HB.out.size)); clear HB hb; have HB := HBn; clear HBn)
    | (go_at_call 8; (with_reducible refine (awake_calls _).mono ?_); rintro e w6 ⟨rfl, hb⟩; have hb := below_alloc1 hb; have HBn := Lib.hid (HB.out.trans (hb.mono HB.out.size)); clear HB hb; have HB := HBn; clear HBn))
  go_ret
  exact ⟨rfl, HB.out⟩
theorem long_row (m : Int) (hm : (Lit.int .u8 m).wf = true) (p : Int) (hp : (Lit.int .u8 p).wf = true) (w : World) :
    Calls Try.prog 6 #[.int .u8 m, .int .u8 p] w fun e w' => e = .returned (.bool true) ∧ Below w.heap.size w w' := by
  have h1 : 0 ≤ m ∧ m < 256 := by
    simp [Lit.wf, IntKind.min, IntKind.max, IntKind.signed, IntKind.bits] at hm
    omega
  have h2 : 0 ≤ p ∧ p < 256 := by
    simp [Lit.wf, IntKind.min, IntKind.max, IntKind.signed, IntKind.bits] at hp
    omega
  obtain ⟨m, rfl⟩ := Int.eq_ofNat_of_zero_le h1.1
  obtain ⟨p, rfl⟩ := Int.eq_ofNat_of_zero_le h2.1
  exact long_law m p (by omega) (by omega) w
end Go.Proofs.Ytjoblpkfpfclpaa.Str
