/- What the reference's At comes to; the rows of a matrix made of rows; all with what stays below. -/
import Derived.Test.YtdhhkkhimcpaoaaProg
import Derived.Below
import Derived.Deep.Draws
import Derived.Deep.AppendLies
import Derived.Maps.AppendAt
import Derived.OwnWalk
import Derived.Laws.BytesArg
import Derived.Laws.MakeOwn
import Derived.Laws.OwnMore
import Derived.Deep.OwnRows
import Derived.Tactics
import Derived.Lib.ConvBytes
import Derived.Laws.Slices
import Derived.WalkKit
import Derived.KernelRfl
import Derived.RowKit3
import Derived.Deep.LoopGhost
import Derived.Deep.QuietTactic
import Derived.BigQuiet
import Derived.WideLaws
import Derived.Deep.DeepCutAuto
import Derived.Deep.CutBlock
import Derived.Deep.RegionHeld3
import Derived.Laws.Rows
import Derived.Lib.AppendStr
import Derived.ArgAppend
import Derived.Laws.IdiomCopy
import Derived.OrdersHeld
import Derived.Laws.BitsLemmas
import Derived.RowKit
import Derived.Lib.Hide
import Derived.WalkSpells
import Derived.Outline
import Derived.Test.YtdhhkkhimcpaoaaWalkSame3
import Derived.Test.YtdhhkkhimcpaoaaPAtx1
namespace Go.Proofs.Ytdhhkkhimcpaoaa.Mat
open Go Go.RowKit Go.Proofs.Ytdhhkkhimcpaoaa.Mem Go.Proofs.Ytdhhkkhimcpaoaa.Bits Go.Proofs.YtdhhkkhimcpaoaaW.PrintWords
set_option linter.unusedVariables false

theorem isMat {w : World} {b s r c cap : Nat} {xs : List Int} (h : MatIn w b s r c cap xs) : IsMat w (.pointer (some ⟨b, 0, none⟩)) r c xs := ⟨b, s, cap, rfl, h⟩
theorem at_f_out (ls : List (List Int)) (h : RightP ls) (i k : Int) (ho : ¬ Within ls.length (ls.getD 0 []).length i k) : PAt.coldframeref03_At.f ls i k = some 0 := by
  unfold PAt.coldframeref03_At.f
  by_cases h1 : i < 0
  · rw [if_pos h1]
  · rw [if_neg h1]
    by_cases h2 : i ≥ (ls.length : Int)
    · rw [if_pos h2]
    · rw [if_neg h2]
      by_cases h3 : k < 0
      · rw [if_pos h3]
      · rw [if_neg h3, if_pos (by omega), if_pos (by omega), if_pos]
        have hl : (PAt.rd_L1 ls i).length = (ls.getD 0 []).length := h.even _ (getD_mem (i := i.toNat) (by omega))
        rw [hl]
        unfold Within at ho
        omega
theorem at_f_in (ls : List (List Int)) (h : RightP ls) (i k : Nat) (hi : i < ls.length) (hk : k < (ls.getD 0 []).length) : PAt.coldframeref03_At.f ls i k = some ((flat ls).getD (i * (ls.getD 0 []).length + k) 0) := by
  unfold PAt.coldframeref03_At.f
  have hl : (PAt.rd_L1 ls i).length = (ls.getD 0 []).length := h.even _ (getD_mem (i := i) hi)
  rw [if_neg (by omega), if_neg (by omega), if_neg (by omega), if_pos (by omega), if_pos (by omega), if_neg (by rw [hl]; omega), if_pos (by omega), if_pos (by rw [hl]; omega), flat_getD _ ls h.even i k hi hk]
  simp [rd, PAt.rd_L1]
theorem ref_at (A0 : Option Addr) (c0 : Nat) (ls : List (List Int)) (i k r : Int) (w W : World) (hR : RowsC w A0 ls) (hB : Below w.heap.size w W) (hl : ls.length ≤ c0) (hf : PAt.coldframeref03_At.f ls i k = some r) :
    Calls Try.prog 17 #[.slice A0 ls.length c0, .int .i64 i, .int .i64 k] W fun e w' => e = .returned (.int .u8 r) ∧ Below W.heap.size W w' := by
  refine (PAt.coldframeref03_At.calls A0 c0 ls i k r W (Kd.C_below hR hB) hl hf).mono ?_
  rintro e w' ⟨rfl, h⟩
  exact ⟨rfl, h.below⟩
theorem ref_right (A0 : Option Addr) (c0 : Nat) (ls : List (List Int)) (b : Bool) (w W : World) (hR : RowsC w A0 ls) (hB : Below w.heap.size w W) (hl : ls.length ≤ c0) (hb : decide (RightP ls) = b) :
    Calls Try.prog 13 #[.slice A0 ls.length c0] W fun e w' => e = .returned (.bool b) ∧ Below W.heap.size W w' := by
  have hf := right_f 100 ls (Nat.le_refl _)
  rw [hb] at hf
  refine (PRight.coldframeref03_Right.calls 100 A0 c0 ls b W (Kd.C_below hR hB) hl hf).mono ?_
  rintro e w' ⟨rfl, h⟩
  exact ⟨rfl, h.below⟩
/-- The rows of a matrix. -/
theorem rows_of (v : Value) (r c : Nat) (xs : List Int) (w : World) (h : IsMat w v r c xs) (ls : List (List Int)) (hls : rowsTo c xs r = ls) :
    Calls Try.prog 15 #[v] w fun e w' => ∃ A c7, e = .returned (.slice A ls.length c7) ∧ RowsC w' A ls ∧ Below w.heap.size w w' := by
  refine (rows_any v r c xs w h).mono ?_
  rintro e w' ⟨u, rfl, hu, hB⟩
  rw [hls] at hu
  obtain ⟨A, c7, rfl, _, hC⟩ := Kd.R_reads hu
  exact ⟨A, c7, rfl, hC, hB⟩
theorem ref_sameB (A0 A1 : Option Addr) (c0 c1 : Nat) (a b : List (List Int)) (t : Bool) (W : World) (hA : RowsC W A0 a) (hB : RowsC W A1 b) (ba : AllBytes a) (bb : AllBytes b) (la : a.length ≤ 1000000) (lb : b.length ≤ 1000000) (ht : decide (a = b) = t) :
    Calls Try.prog 14 #[.slice A0 a.length c0, .slice A1 b.length c1] W fun e w' => e = .returned (.bool t) ∧ Below W.heap.size W w' := by
  refine (ref_same A0 A1 c0 c1 a b W hA hB ba bb la lb).mono ?_
  rintro e w' ⟨rfl, n, rfl⟩
  rw [ht]
  exact ⟨rfl, pw_below_drewN (Below.refl _ _) n⟩
theorem sameB (v u : Value) (r c r' c' : Nat) (xs ys : List Int) (t : Bool) (w : World) (h : IsMat w v r c xs) (h' : IsMat w u r' c' ys) (ht : AlikeB r c xs r' c' ys = t) :
    Calls Try.prog 12 #[v, u] w fun e w' => e = .returned (.bool t) ∧ Below w.heap.size w w' := by
  refine (same_any v u r c r' c' xs ys w h h').mono ?_
  rintro e w' ⟨rfl, n, rfl⟩
  rw [ht]
  exact ⟨rfl, pw_below_drewN (Below.refl _ _) n⟩
theorem sizeB (v : Value) (r c : Nat) (xs : List Int) (w : World) (h : IsMat w v r c xs) :
    Calls Try.prog 20 #[v] w fun e w' => e = .returned (.tuple #[.int .i64 r, .int .i64 c]) ∧ Below w.heap.size w w' := by
  refine (size_any v r c xs w h).mono ?_
  rintro e w' ⟨rfl, n, rfl⟩
  exact ⟨rfl, pw_below_drewN (Below.refl _ _) n⟩
theorem at_outB (v : Value) (r c : Nat) (xs : List Int) (i k : Int) (w : World) (h : IsMat w v r c xs) (ho : ¬ Within r c i k) :
    Calls Try.prog 16 #[v, .int .i64 i, .int .i64 k] w fun e w' => e = .returned (.int .u8 0) ∧ Below w.heap.size w w' := by
  refine (at_out v r c xs i k w h ho).mono ?_
  rintro e w' ⟨rfl, n, rfl⟩
  exact ⟨rfl, pw_below_drewN (Below.refl _ _) n⟩
theorem at_inB (v : Value) (r c : Nat) (xs : List Int) (i k : Nat) (z : Int) (w : World) (h : IsMat w v r c xs) (hi : i < r) (hk : k < c) (hz : xs.getD (i * c + k) 0 = z) :
    Calls Try.prog 16 #[v, .int .i64 i, .int .i64 k] w fun e w' => e = .returned (.int .u8 z) ∧ Below w.heap.size w w' := by
  refine (at_in v r c xs i k w h hi hk).mono ?_
  rintro e w' ⟨rfl, n, rfl⟩
  rw [hz]
  exact ⟨rfl, pw_below_drewN (Below.refl _ _) n⟩
theorem set_outB (v : Value) (r c : Nat) (xs : List Int) (i k x : Int) (w : World) (h : IsMat w v r c xs) (ho : ¬ Within r c i k) :
    Calls Try.prog 19 #[v, .int .i64 i, .int .i64 k, .int .u8 x] w fun e w' => e = .returned (.int .i64 1) ∧ Below w.heap.size w w' := by
  refine (set_out v r c xs i k x w h ho).mono ?_
  rintro e w' ⟨rfl, n, rfl⟩
  exact ⟨rfl, pw_below_drewN (Below.refl _ _) n⟩
/-- An element set; what else stays. -/
theorem set_inB (b s cap r c : Nat) (xs : List Int) (i k : Nat) (x : Int) (w0 w : World) (hB : Below w0.heap.size w0 w) (hs : w0.heap.size ≤ s) (h : MatIn w b s r c cap xs) (hi : i < r) (hk : k < c) (h0 : 0 ≤ x) (h1 : x < 256) :
    Calls Try.prog 19 #[.pointer (some ⟨b, 0, none⟩), .int .i64 i, .int .i64 k, .int .u8 x] w fun e w' => e = .returned (.int .i64 0) ∧ MatIn w' b s r c cap (xs.set (i * c + k) x) ∧ Below w0.heap.size w0 w' ∧
      ∀ b' s' r' c' cap' ys, MatIn w b' s' r' c' cap' ys → b' ≠ s → s' ≠ s → MatIn w' b' s' r' c' cap' ys := by
  refine (set_in b s cap r c xs i k x w h hi hk).mono ?_
  rintro e w' ⟨rfl, n, rfl⟩
  refine ⟨rfl, (h.store _ x h0 h1).drewN n, pw_below_drewN (hB.setCell (p := ⟨s, i * c + k, none⟩) hs _) n, fun b' s' r' c' cap' ys h' hb hs' => (h'.far (p := ⟨s, i * c + k, none⟩) hb hs' _).drewN n⟩
theorem copyB (v : Value) (r c : Nat) (xs : List Int) (w : World) (h : IsMat w v r c xs) :
    Calls Try.prog 18 #[v] w fun e w' => ∃ b s cap, e = .returned (.pointer (some ⟨b, 0, none⟩)) ∧ MatIn w' b s r c cap xs ∧ Below w.heap.size w w' ∧ w.heap.size ≤ b ∧ w.heap.size ≤ s := copy_any v r c xs w h
end Go.Proofs.Ytdhhkkhimcpaoaa.Mat
