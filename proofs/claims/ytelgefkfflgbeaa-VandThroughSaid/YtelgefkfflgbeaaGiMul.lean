/- gf.Mul, walked by hand: the world stays. -/
import Derived.Test.YtelgefkfflgbeaaProg
import Derived.Below
import Derived.Deep.Draws
import Derived.Deep.AppendLies
import Derived.Maps.AppendAt
import Derived.OwnWalk
import Derived.Laws.BytesArg
import Derived.Laws.MakeOwn
import Derived.Laws.OwnMore
import Derived.Deep.OwnRows
import Derived.Tactics
import Derived.Lib.ConvBytes
import Derived.Laws.Slices
import Derived.WalkKit
import Derived.KernelRfl
import Derived.RowKit3
import Derived.Deep.LoopGhost
import Derived.Deep.QuietTactic
import Derived.BigQuiet
import Derived.WideLaws
import Derived.Deep.DeepCutAuto
import Derived.Deep.CutBlock
import Derived.Deep.RegionHeld3
import Derived.Laws.Rows
import Derived.Lib.AppendStr
import Derived.ArgAppend
import Derived.Laws.IdiomCopy
import Derived.OrdersHeld
import Derived.Laws.BitsLemmas
import Derived.RowKit
import Derived.Lib.Hide
import Derived.WalkSpells
import Derived.Outline
import Derived.Test.YtelgefkfflgbeaaGf
import Derived.Test.YtelgefkfflgbeaaBits
import Derived.Test.YtelgefkfflgbeaaGi
import Derived.Test.YtelgefkfflgbeaaWWords
namespace Go.Proofs.Ytelgefkfflgbeaa.Gi
open Go Go.RowKit Go.Proofs.Ytelgefkfflgbeaa.Bits Go.Proofs.Ytelgefkfflgbeaa.Gf Go.Proofs.YtelgefkfflgbeaaW.PrintWords
set_option linter.unusedVariables false

theorem xt_is (x : Nat) (h : x < 256) : (if 255 < x * 2 then x * 2 ^^^ 285 else x * 2) = xt x := by
  have e : ∀ x, x < 256 → (if 255 < x * 2 then x * 2 ^^^ 285 else x * 2) = xt x := by decide +kernel
  exact e x h
theorem xor_lt {a b : Nat} (ha : a < 256) (hb : b < 256) : a ^^^ b < 256 := by
  have : a ^^^ b < 2 ^ 8 := Nat.xor_lt_two_pow ha hb
  simpa using this

/-- What the loop holds. -/
def MulInv (r : Nat) (n b p x : Nat) : Prop := n ≤ 8 ∧ b < 2 ^ n ∧ p < 256 ∧ x < 256 ∧ gmA n b p x = r
theorem mulInv_bounds {r n b p x : Nat} (h : MulInv r n b p x) : b < 256 ∧ p < 256 ∧ x < 256 := by
  refine ⟨Nat.lt_of_lt_of_le h.2.1 ?_, h.2.2.1, h.2.2.2.1⟩
  have := Nat.pow_le_pow_right (n := 2) (by decide) h.1
  simpa using this
theorem mulInv_step {r n b p x : Nat} (h : MulInv r n b p x) (hb : 0 < b) : ∃ m, MulInv r m (b / 2) (p ^^^ b % 2 * x) (xt x) := by
  obtain ⟨h1, h2, h3, h4, h5⟩ := h
  cases n with
  | zero => simp at h2; omega
  | succ m =>
    refine ⟨m, by omega, by rw [Nat.pow_succ] at h2; omega, ?_, xt_lt x, h5⟩
    refine xor_lt h3 ?_
    rcases bit01 b with e | e <;> rw [e] <;> omega
theorem mulInv_end {r n p x : Nat} (h : MulInv r n 0 p x) : p = r := by
  have := h.2.2.2.2
  rwa [gmA_zero] at this

set_option maxRecDepth 100000 in
theorem mul_still0 (a b0 : Nat) (w : World) (ha : a < 256) (hb0 : b0 < 256) :
    Calls Try.prog 27 #[.int .u8 a, .int .u8 b0] w fun e w' => e = .returned (.int .u8 (gm a b0 : Nat)) ∧ w' = w := by
  have hI := Lib.hid (show MulInv (gm a b0) 8 b0 0 a from ⟨Nat.le_refl _, by simpa using hb0, by decide, ha, rfl⟩)
  have hr := gm_lt a b0 ha
  have ea : IntKind.i64.wrap (a : Int) = (a : Int) := IntWalk.i64_in _ (by omega)
  obtain ⟨r, hrr⟩ : ∃ r, r = gm a b0 := ⟨_, rfl⟩
  rw [← hrr] at hI hr ⊢
  clear hrr
  go_enter Try.func27, Try.ntmps27
  go_wp2
  go_loopw [1, 5, 6] (fun vb vp vx wr => ∃ (n b p x : Nat), vb = .int .u8 b ∧ vp = .int .i64 p ∧ vx = .int .i64 x ∧ Hid (MulInv r n b p x) ∧ Hid (wr = w)) (fun vb _ _ _ => (intOf vb).toNat)
  case atStart => exact ⟨8, b0, 0, a, rfl, rfl, rfl, hI, Lib.hid rfl⟩
  case round =>
    obtain ⟨n, b, p, x, rfl, rfl, rfl, hJ, hW⟩ := hrel
    have hm := hW.out
    subst hm
    clear hI
    obtain ⟨hb, hp, hx⟩ := mulInv_bounds hJ.out
    by_cases h0 : 0 < b
    · obtain ⟨n', hN⟩ := mulInv_step hJ.out h0
      have hxt := xt_is x hx
      have c3 : decide ((0 : Int) < (b : Int)) = true := by simp; omega
      have eb : bits .and .u8 (b : Int) 1 = ((b % 2 : Nat) : Int) := and1_u8 b hb
      have ex : bits .xor .i64 (p : Int) (x : Int) = ((p ^^^ x : Nat) : Int) := xor_i64 p x (by omega) (by omega)
      have e2 : bits .xor .i64 ((x : Int) * 2) 285 = ((x * 2 ^^^ 285 : Nat) : Int) := by
        have := xor_i64 (x * 2) 285 (by omega) (by omega)
        rwa [show ((x * 2 : Nat) : Int) = (x : Int) * 2 by omega] at this
      have ed : (b : Int) / 2 = ((b / 2 : Nat) : Int) := by omega
      have HD := Lib.hid ed
      have HN := Lib.hid hN
      have hlt : b / 2 < b := by omega
      have HB2 := Lib.hid (show b / 2 < b by omega)
      have HX := Lib.hid hxt
      have HE2 := Lib.hid e2
      have HEX := Lib.hid ex
      clear hN ed hlt hxt e2 ex
      rcases bit01 b with hbit | hbit
      · have q1 : (bits .and .u8 (b : Int) 1 == 1) = false := by rw [eb, hbit]; rfl
        have Hbit := Lib.hid hbit
        clear eb hbit
        by_cases h5 : 255 < x * 2
        · have q2 : decide ((255 : Int) < (x : Int) * 2) = true := by simp; omega
          go_wp2
          go_roundw
          case rel => exact ⟨n', b / 2, p, xt x, by rw [← HD.out], rfl, by have := HX.out; rw [if_pos h5] at this; rw [HE2.out, this], by have := HN.out; rw [Hbit.out, Nat.zero_mul, Nat.xor_zero] at this; exact Lib.hid this, by first | exact Lib.hid rfl | exact Lib.hid trivial⟩
          case measure => have := HB2.out; simp [intOf]; omega
        · have q2 : decide ((255 : Int) < (x : Int) * 2) = false := by simp; omega
          go_wp2
          go_roundw
          case rel => exact ⟨n', b / 2, p, xt x, by rw [← HD.out], rfl, by have := HX.out; rw [if_neg h5] at this; rw [← this]; congr 1, by have := HN.out; rw [Hbit.out, Nat.zero_mul, Nat.xor_zero] at this; exact Lib.hid this, by first | exact Lib.hid rfl | exact Lib.hid trivial⟩
          case measure => have := HB2.out; simp [intOf]; omega
      · have q1 : (bits .and .u8 (b : Int) 1 == 1) = true := by rw [eb, hbit]; rfl
        have Hbit := Lib.hid hbit
        clear eb hbit
        by_cases h5 : 255 < x * 2
        · have q2 : decide ((255 : Int) < (x : Int) * 2) = true := by simp; omega
          go_wp2
          go_roundw
          case rel => exact ⟨n', b / 2, p ^^^ x, xt x, by rw [← HD.out], by rw [HEX.out], by have := HX.out; rw [if_pos h5] at this; rw [HE2.out, this], by have := HN.out; rw [Hbit.out, Nat.one_mul] at this; exact Lib.hid this, by first | exact Lib.hid rfl | exact Lib.hid trivial⟩
          case measure => have := HB2.out; simp [intOf]; omega
        · have q2 : decide ((255 : Int) < (x : Int) * 2) = false := by simp; omega
          go_wp2
          go_roundw
          case rel => exact ⟨n', b / 2, p ^^^ x, xt x, by rw [← HD.out], by rw [HEX.out], by have := HX.out; rw [if_neg h5] at this; rw [← this]; congr 1, by have := HN.out; rw [Hbit.out, Nat.one_mul] at this; exact Lib.hid this, by first | exact Lib.hid rfl | exact Lib.hid trivial⟩
          case measure => have := HB2.out; simp [intOf]; omega
    · obtain rfl : b = 0 := by omega
      obtain rfl := mulInv_end hJ.out
      have c3 : decide ((0 : Int) < ((0 : Nat) : Int)) = false := by decide
      go_wp2
      go_ret
      exact ⟨by congr 2, rfl⟩
theorem mul_still (a b : Int) (w : World) (ha : Byt a) (hb : Byt b) :
    Calls Try.prog 27 #[.int .u8 a, .int .u8 b] w fun e w' => e = .returned (.int .u8 (gmI a b)) ∧ w' = w := by
  obtain ⟨x, hx, rfl⟩ := byt_nat ha
  obtain ⟨y, hy, rfl⟩ := byt_nat hb
  refine (mul_still0 x y w hx hy).mono ?_
  rintro e w' ⟨rfl, h⟩
  exact ⟨by simp [gmI], h⟩
theorem add_still (a b : Int) (w : World) (ha : Byt a) (hb : Byt b) :
    Calls Try.prog 26 #[.int .u8 a, .int .u8 b] w fun e w' => e = .returned (.int .u8 (xorI a b)) ∧ w' = w := by
  have hx := xor_bits ha hb
  go_enter Try.func26, Try.ntmps26
  go_wp2
  go_ret
  exact ⟨by first | rfl | rw [hx], rfl⟩
end Go.Proofs.Ytelgefkfflgbeaa.Gi
