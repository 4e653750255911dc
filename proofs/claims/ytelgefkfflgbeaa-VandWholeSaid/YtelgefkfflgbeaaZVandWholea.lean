/- The statement VandWhole: what its proof rests on, part 1 of 2. -/
import Derived.Laws.BitsLemmas
import Derived.RowKit
import Derived.Test.YtelgefkfflgbeaaPVandPointsx2
import Derived.Test.YtelgefkfflgbeaaProg
import Derived.Below
import Derived.Deep.Draws
import Derived.Deep.AppendLies
import Derived.Maps.AppendAt
import Derived.OwnWalk
import Derived.Laws.BytesArg
import Derived.Laws.MakeOwn
import Derived.Laws.OwnMore
import Derived.Deep.OwnRows
import Derived.Tactics
import Derived.Lib.ConvBytes
import Derived.Laws.Slices
import Derived.WalkKit
import Derived.KernelRfl
import Derived.RowKit3
import Derived.Deep.LoopGhost
import Derived.Deep.QuietTactic
import Derived.BigQuiet
import Derived.WideLaws
import Derived.Deep.DeepCutAuto
import Derived.Deep.CutBlock
import Derived.Deep.RegionHeld3
import Derived.Laws.Rows
import Derived.Lib.AppendStr
import Derived.ArgAppend
import Derived.Laws.IdiomCopy
import Derived.OrdersHeld
import Derived.Lib.Hide
import Derived.StillTailTactics
import Derived.Test.YtelgefkfflgbeaaPVandRowsx2
import Derived.WalkSpells
import Derived.Test.YtelgefkfflgbeaaWWords
import Derived.Outline
import Derived.Laws.CopyOwn
/- Plain arithmetic of the field of 256 elements: bytes as polynomials. -/
namespace Go.Proofs.Ytelgefkfflgbeaa.Gf

theorem xor_half (a b : Nat) : (a ^^^ b) / 2 = a / 2 ^^^ b / 2 := by
  have := @Nat.xor_div_two_pow a b 1
  simpa using this
theorem xor_bit (a b : Nat) : (a ^^^ b) % 2 = a % 2 ^^^ b % 2 := by
  have := @Nat.xor_mod_two_pow a b 1
  simpa using this
theorem dbl_xor (a b : Nat) : (a ^^^ b) * 2 = a * 2 ^^^ b * 2 := by
  have := @Nat.shiftLeft_xor_distrib 1 a b
  simpa [Nat.shiftLeft_eq] using this
theorem x4 (a b c d : Nat) : (a ^^^ b) ^^^ (c ^^^ d) = (a ^^^ c) ^^^ (b ^^^ d) := by
  rw [Nat.xor_assoc, Nat.xor_assoc, ← Nat.xor_assoc b c d, Nat.xor_comm b c, Nat.xor_assoc c b d]

/-- Twice an element. -/
def xt (x : Nat) : Nat := x % 128 * 2 ^^^ x / 128 % 2 * 29

theorem bit01 (n : Nat) : n % 2 = 0 ∨ n % 2 = 1 := by omega
theorem bitmul (a b c : Nat) : ((a ^^^ b) % 2) * c = (a % 2 * c) ^^^ (b % 2 * c) := by
  rw [xor_bit]
  rcases bit01 a with h | h <;> rcases bit01 b with h' | h' <;> simp [h, h']

theorem xt_xor (x y : Nat) : xt (x ^^^ y) = xt x ^^^ xt y := by
  unfold xt
  have h1 := @Nat.xor_mod_two_pow x y 7
  have h2 := @Nat.xor_div_two_pow x y 7
  simp only [Nat.reducePow] at h1 h2
  rw [h1, h2, dbl_xor, bitmul, x4]
theorem xt_zero : xt 0 = 0 := rfl
theorem xt_lt (x : Nat) : xt x < 256 := by
  unfold xt
  have h : x % 128 * 2 < 2 ^ 8 := by omega
  have h' : x / 128 % 2 * 29 < 2 ^ 8 := by omega
  simpa using Nat.xor_lt_two_pow h h'

/-- The product, from the low bit of 'b' on. -/
def gmA : Nat → Nat → Nat → Nat → Nat
  | 0, _, p, _ => p
  | n + 1, b, p, x => gmA n (b / 2) (p ^^^ b % 2 * x) (xt x)

theorem gmA_acc (n : Nat) : ∀ b p x, gmA n b p x = p ^^^ gmA n b 0 x := by
  induction n with
  | zero => intro b p x; simp [gmA]
  | succ n ih =>
    intro b p x
    simp only [gmA]
    rw [ih _ (p ^^^ _), ih _ (0 ^^^ _), Nat.zero_xor, Nat.xor_assoc]

theorem gmA_xor_left (n : Nat) : ∀ b c x, gmA n (b ^^^ c) 0 x = gmA n b 0 x ^^^ gmA n c 0 x := by
  induction n with
  | zero => intro b c x; simp [gmA]
  | succ n ih =>
    intro b c x
    simp only [gmA, Nat.zero_xor]
    rw [gmA_acc, gmA_acc n (b / 2), gmA_acc n (c / 2), xor_half, bitmul, ih, x4]

theorem bitdist (b x y : Nat) : b % 2 * (x ^^^ y) = b % 2 * x ^^^ b % 2 * y := by
  rcases bit01 b with h | h <;> simp [h]

theorem gmA_xor_right (n : Nat) : ∀ b x y, gmA n b 0 (x ^^^ y) = gmA n b 0 x ^^^ gmA n b 0 y := by
  induction n with
  | zero => intro b x y; simp [gmA]
  | succ n ih =>
    intro b x y
    simp only [gmA, Nat.zero_xor]
    rw [gmA_acc, gmA_acc n (b / 2) (b % 2 * x), gmA_acc n (b / 2) (b % 2 * y), xt_xor, bitdist, ih, x4]

theorem gmA_zero (n : Nat) : ∀ p x, gmA n 0 p x = p := by
  induction n with
  | zero => intro p x; rfl
  | succ n ih => intro p x; simp [gmA, ih]

theorem gmA_lt (n : Nat) : ∀ b p x, p < 256 → x < 256 → gmA n b p x < 256 := by
  induction n with
  | zero => intro b p x hp hx; exact hp
  | succ n ih =>
    intro b p x hp hx
    refine ih _ _ _ ?_ (xt_lt x)
    have h : b % 2 * x < 2 ^ 8 := by rcases bit01 b with h | h <;> simp [h]; omega
    have hp' : p < 2 ^ 8 := by omega
    simpa using Nat.xor_lt_two_pow hp' h

/-- The product of two elements. -/
def gm (a b : Nat) : Nat := gmA 8 b 0 a

theorem gm_xor_left (a b c : Nat) : gm (a ^^^ b) c = gm a c ^^^ gm b c := gmA_xor_right 8 c a b
theorem gm_xor_right (a b c : Nat) : gm a (b ^^^ c) = gm a b ^^^ gm a c := gmA_xor_left 8 b c a
theorem gm_lt (a b : Nat) (h : a < 256) : gm a b < 256 := gmA_lt 8 b 0 a (by decide) h

/-- What holds of nought and of the powers of 2, and goes on through sums, holds of all elements. -/
theorem span {P : Nat → Prop} (h0 : P 0) (hx : ∀ a b, P a → P b → P (a ^^^ b)) (h2 : ∀ i, i < 8 → P (2 ^ i)) (a : Nat) (ha : a < 256) : P a := by
  have e : ∀ a, a < 256 → a = (a % 2 ^^^ a / 2 % 2 * 2) ^^^ (a / 4 % 2 * 4 ^^^ a / 8 % 2 * 8) ^^^ (a / 16 % 2 * 16 ^^^ a / 32 % 2 * 32) ^^^ (a / 64 % 2 * 64 ^^^ a / 128 % 2 * 128) := by
    decide +kernel
  have hb : ∀ (n i c : Nat), c = 2 ^ i → i < 8 → P (n % 2 * c) := by
    rintro n i _ rfl hi
    rcases bit01 n with h | h <;> rw [h]
    · simpa using h0
    · simpa using h2 i hi
  rw [e a ha]
  refine hx _ _ (hx _ _ (hx _ _ (hx _ _ ?_ ?_) (hx _ _ ?_ ?_)) (hx _ _ ?_ ?_)) (hx _ _ ?_ ?_)
  · simpa using hb a 0 1 rfl (by decide)
  · exact hb _ 1 _ rfl (by decide)
  · exact hb _ 2 _ rfl (by decide)
  · exact hb _ 3 _ rfl (by decide)
  · exact hb _ 4 _ rfl (by decide)
  · exact hb _ 5 _ rfl (by decide)
  · exact hb _ 6 _ rfl (by decide)
  · exact hb _ 7 _ rfl (by decide)

theorem gm_zero_left (b : Nat) : gm 0 b = 0 := by
  have := gm_xor_left 0 0 b
  simpa using this
theorem gm_zero_right (a : Nat) : gm a 0 = 0 := gmA_zero 8 0 a

theorem gm_comm (a b : Nat) (ha : a < 256) (hb : b < 256) : gm a b = gm b a := by
  refine span (P := fun a => gm a b = gm b a) ?_ ?_ ?_ a ha
  · rw [gm_zero_left, gm_zero_right]
  · intro a a' h h'; rw [gm_xor_left, gm_xor_right, h, h']
  · intro i hi
    refine span (P := fun b => gm (2 ^ i) b = gm b (2 ^ i)) ?_ ?_ ?_ b hb
    · rw [gm_zero_left, gm_zero_right]
    · intro a a' h h'; rw [gm_xor_left, gm_xor_right, h, h']
    · revert i; decide +kernel

theorem gm_assoc (a b c : Nat) (ha : a < 256) (hb : b < 256) (hc : c < 256) : gm (gm a b) c = gm a (gm b c) := by
  refine span (P := fun a => gm (gm a b) c = gm a (gm b c)) ?_ ?_ ?_ a ha
  · simp only [gm_zero_left]
  · intro a a' h h'; simp only [gm_xor_left, h, h']
  · intro i hi
    refine span (P := fun b => gm (gm (2 ^ i) b) c = gm (2 ^ i) (gm b c)) ?_ ?_ ?_ b hb
    · simp only [gm_zero_left, gm_zero_right]
    · intro a a' h h'; simp only [gm_xor_left, gm_xor_right, h, h']
    · intro j hj
      refine span (P := fun c => gm (gm (2 ^ i) (2 ^ j)) c = gm (2 ^ i) (gm (2 ^ j) c)) ?_ ?_ ?_ c hc
      · simp only [gm_zero_right]
      · intro a a' h h'; simp only [gm_xor_right, h, h']
      · revert i j; decide +kernel

theorem gm_one (a : Nat) : gm a 1 = a := by simp [gm, gmA]

/-- Which element comes to 1 with one. -/
def ginv (a : Nat) : Nat := gm (gm (gm (gm (gm (gm (gm a a) a |> fun x => gm x x) a |> fun x => gm x x) a |> fun x => gm x x) a |> fun x => gm x x) a |> fun x => gm x x) a |> fun x => gm x x

theorem ginv_lt (a : Nat) (h : a < 256) : ginv a < 256 := by
  have e : ∀ a, a < 256 → ginv a < 256 := by decide +kernel
  exact e a h
theorem gm_inv (a : Nat) (h : a < 256) (h0 : a ≠ 0) : gm a (ginv a) = 1 := by
  have e : ∀ a, a < 256 → a ≠ 0 → gm a (ginv a) = 1 := by decide +kernel
  exact e a h h0

/-- The document's product: the polynomials' one, from the low bit of 'b' on .. -/
def clA : Nat → Nat → Nat → Nat → Nat
  | 0, _, p, _ => p
  | n + 1, b, p, x => clA n (b / 2) (p ^^^ b % 2 * x) (x * 2)

/-- .. brought down, from the bit 'i + 8 - 1' on. -/
def redA : Nat → Nat → Nat
  | 0, p => p
  | n + 1, p => redA n (p ^^^ p / 2 ^ (n + 8) % 2 * (285 * 2 ^ n))

theorem clA_acc (n : Nat) : ∀ b p x, clA n b p x = p ^^^ clA n b 0 x := by
  induction n with
  | zero => intro b p x; simp [clA]
  | succ n ih =>
    intro b p x
    simp only [clA]
    rw [ih _ (p ^^^ _), ih _ (0 ^^^ _), Nat.zero_xor, Nat.xor_assoc]

theorem clA_xor_left (n : Nat) : ∀ b c x, clA n (b ^^^ c) 0 x = clA n b 0 x ^^^ clA n c 0 x := by
  induction n with
  | zero => intro b c x; simp [clA]
  | succ n ih =>
    intro b c x
    simp only [clA, Nat.zero_xor]
    rw [clA_acc, clA_acc n (b / 2), clA_acc n (c / 2), xor_half, bitmul, ih, x4]

theorem clA_xor_right (n : Nat) : ∀ b x y, clA n b 0 (x ^^^ y) = clA n b 0 x ^^^ clA n b 0 y := by
  induction n with
  | zero => intro b x y; simp [clA]
  | succ n ih =>
    intro b x y
    simp only [clA, Nat.zero_xor]
    rw [clA_acc, clA_acc n (b / 2) (b % 2 * x), clA_acc n (b / 2) (b % 2 * y), dbl_xor, bitdist, ih, x4]

theorem redA_xor (n : Nat) : ∀ p q, redA n (p ^^^ q) = redA n p ^^^ redA n q := by
  induction n with
  | zero => intro p q; rfl
  | succ n ih =>
    intro p q
    simp only [redA]
    rw [← ih]
    congr 1
    rw [Nat.xor_div_two_pow, bitmul, x4]

theorem ref_eq (a b : Nat) (ha : a < 256) (hb : b < 256) : redA 7 (clA 8 b 0 a) = gm a b := by
  refine span (P := fun a => redA 7 (clA 8 b 0 a) = gm a b) ?_ ?_ ?_ a ha
  · have h := clA_xor_right 8 b 0 0
    have h' := redA_xor 7 0 0
    simp only [Nat.xor_self] at h h'
    simp only [h, h', gm_zero_left]
  · intro a a' h h'; simp only [clA_xor_right, redA_xor, gm_xor_left, h, h']
  · intro i hi
    refine span (P := fun b => redA 7 (clA 8 b 0 (2 ^ i)) = gm (2 ^ i) b) ?_ ?_ ?_ b hb
    · have h := clA_xor_left 8 0 0 (2 ^ i)
      have h' := redA_xor 7 0 0
      simp only [Nat.xor_self] at h h'
      simp only [h, h', gm_zero_right]
    · intro a a' h h'; simp only [clA_xor_left, redA_xor, gm_xor_right, h, h']
    · revert i; decide +kernel

end Go.Proofs.Ytelgefkfflgbeaa.Gf
/- Bits of whole numbers as the printed functions spell them, on natural numbers. -/
namespace Go.Proofs.Ytelgefkfflgbeaa.Bits
open Go Go.RowKit

/-- 'bind' behind a 'some', by an equation that is none of definition: the kernel then never looks into what stands behind. -/
theorem bnd {α β : Type} (a : α) (f : α → Option β) : (some a).bind f = f a := by
  have h : ∀ o : Option α, o = some a → o.bind f = f a := fun o ho => by rw [ho]; rfl
  exact h _ rfl

theorem bits_xor (k : IntKind) (j : Nat) (hj : j ≤ k.bits) (hk : ∀ n : Int, 0 ≤ n → n < 2 ^ j → k.wrap n = n) (a b : Nat) (ha : a < 2 ^ j) (hb : b < 2 ^ j) :
    bits .xor k a b = ((a ^^^ b : Nat) : Int) := by
  have hp : 2 ^ j ≤ 2 ^ k.bits := Nat.pow_le_pow_right (by decide) hj
  have ha' : a % 2 ^ k.bits = a := Nat.mod_eq_of_lt (Nat.lt_of_lt_of_le ha hp)
  have hb' : b % 2 ^ k.bits = b := Nat.mod_eq_of_lt (Nat.lt_of_lt_of_le hb hp)
  simp only [bits, BitVec.ofInt_natCast, BitVec.toNat_xor, BitVec.toNat_ofNat, ha', hb']
  exact hk _ (Int.natCast_nonneg _) (by exact_mod_cast Nat.xor_lt_two_pow ha hb)

theorem wraps_i64 (n : Int) (h₀ : 0 ≤ n) (h₁ : n < 2 ^ 63) : IntKind.i64.wrap n = n := by rw [IntKind.wrap_i64]; omega
theorem wraps_u64 (n : Int) (h₀ : 0 ≤ n) (h₁ : n < 2 ^ 64) : IntKind.u64.wrap n = n := by
  simp [IntKind.wrap, IntKind.bits, IntKind.signed]; omega

theorem xor_i64 (a b : Nat) (ha : a < 9223372036854775808) (hb : b < 9223372036854775808) : bits .xor .i64 (a : Int) (b : Int) = ((a ^^^ b : Nat) : Int) :=
  bits_xor .i64 63 (by decide) wraps_i64 a b ha hb
theorem xor_u8 (a b : Nat) (ha : a < 256) (hb : b < 256) : bits .xor .u8 (a : Int) (b : Int) = ((a ^^^ b : Nat) : Int) :=
  bits_xor .u8 8 (by decide) wraps_u8 a b ha hb
theorem xor_u64 (a b : Nat) (ha : a < 18446744073709551616) (hb : b < 18446744073709551616) : bits .xor .u64 (a : Int) (b : Int) = ((a ^^^ b : Nat) : Int) :=
  bits_xor .u64 64 (by decide) wraps_u64 a b ha hb
theorem and1_u8 (a : Nat) (ha : a < 256) : bits .and .u8 (a : Int) 1 = ((a % 2 : Nat) : Int) := by
  have := bits_mask .u8 8 (by decide) wraps_u8 1 (by decide) (a : Int) (by omega) (by omega)
  simpa using this
theorem and1_i64 (a : Nat) (ha : a < 9223372036854775808) : bits .and .i64 (a : Int) 1 = ((a % 2 : Nat) : Int) := by
  have := bits_mask .i64 63 (by decide) wraps_i64 1 (by decide) (a : Int) (by omega) (by omega)
  simpa using this
theorem wrap64_nat (n : Nat) (h : n < 9223372036854775808) : wrap64 (n : Int) = n := by unfold wrap64; omega
theorem wrap64_in (n : Int) (h0 : -9223372036854775808 ≤ n) (h : n < 9223372036854775808) : wrap64 n = n := by unfold wrap64; omega
theorem wf_u8 {a : Int} (h : (Lit.int .u8 a).wf = true) : ∃ n : Nat, n < 256 ∧ a = n := by
  simp [Lit.wf, IntKind.min, IntKind.max, IntKind.signed, IntKind.bits] at h
  exact ⟨a.toNat, by omega, by omega⟩
end Go.Proofs.Ytelgefkfflgbeaa.Bits
/- The printed product of two elements is the plain one. -/
namespace Go.Proofs.Ytelgefkfflgbeaa.BVandPoints
open Go Go.RowKit Go.Proofs.Ytelgefkfflgbeaa.PVandPoints Go.Proofs.Ytelgefkfflgbeaa.Gf Go.Proofs.Ytelgefkfflgbeaa.Bits Go.Proofs.YtelgefkfflgbeaaW.PrintWords Go.Proofs.YtelgefkfflgbeaaW.PrintLast

theorem xt_is (x : Nat) (h : x < 256) : (if 255 < x * 2 then x * 2 ^^^ 285 else x * 2) = xt x := by
  have e : ∀ x, x < 256 → (if 255 < x * 2 then x * 2 ^^^ 285 else x * 2) = xt x := by decide +kernel
  exact e x h

theorem gf_mul_loop (n : Nat) : ∀ (k b p x : Nat), b < 2 ^ n → p < 256 → x < 256 → n < k → n ≤ 8 → gf_Mul.l0 k b p x = some ((gmA n b p x : Nat) : Int) := by
  induction n with
  | zero =>
    intro k b p x hb hp hx hk hn
    obtain ⟨k, rfl⟩ : ∃ m, k = m + 1 := ⟨k - 1, by omega⟩
    simp only [gf_Mul.l0, gmA]
    rw [if_neg (by simp at hb; omega)]
    congr 1; omega
  | succ n ih =>
    intro k b p x hb hp hx hk hn
    obtain ⟨k, rfl⟩ : ∃ m, k = m + 1 := ⟨k - 1, by omega⟩
    have hb8 : b < 256 := Nat.lt_of_lt_of_le hb (Nat.pow_le_pow_right (by decide) hn)
    by_cases h0 : b = 0
    · subst h0
      simp only [gf_Mul.l0]
      rw [if_neg (by omega), gmA_zero]
      congr 1; omega
    have hx2 : wrap64 ((x : Int) * 2) = ((x * 2 : Nat) : Int) := by rw [wrap64_in _ (by omega) (by omega)]; omega
    have hb2 : (b : Int) / 2 = ((b / 2 : Nat) : Int) := by omega
    have hlt : b / 2 < 2 ^ n := by rw [Nat.pow_succ] at hb; omega
    have e1 : bits .xor .i64 (p : Int) (x : Int) = ((p ^^^ x : Nat) : Int) := xor_i64 p x (by omega) (by omega)
    have e2 : bits .xor .i64 ((x * 2 : Nat) : Int) 285 = ((x * 2 ^^^ 285 : Nat) : Int) := xor_i64 (x * 2) 285 (by omega) (by omega)
    have hpx : p ^^^ x < 256 := by
      have : p ^^^ x < 2 ^ 8 := Nat.xor_lt_two_pow (by omega) (by omega)
      simpa using this
    simp only [gf_Mul.l0, gmA]
    rw [if_pos (by omega), and1_u8 b hb8, hx2, hb2, e1, e2]
    have hxt := xt_is x hx
    have hxl := xt_lt x
    rcases bit01 b with h | h
    · rw [if_neg (by omega), h, Nat.zero_mul, Nat.xor_zero]
      by_cases hc : 255 < x * 2
      · rw [if_pos (by omega)]
        rw [if_pos hc] at hxt
        rw [hxt, ih k _ _ _ hlt hp hxl (by omega) (by omega)]
      · rw [if_neg (by omega)]
        rw [if_neg hc] at hxt
        rw [hxt, ih k _ _ _ hlt hp hxl (by omega) (by omega)]
    · rw [if_pos (by omega), h, Nat.one_mul]
      by_cases hc : 255 < x * 2
      · rw [if_pos (by omega)]
        rw [if_pos hc] at hxt
        rw [hxt, ih k _ _ _ hlt hpx hxl (by omega) (by omega)]
      · rw [if_neg (by omega)]
        rw [if_neg hc] at hxt
        rw [hxt, ih k _ _ _ hlt hpx hxl (by omega) (by omega)]

theorem gf_mul (k a b : Nat) (ha : a < 256) (hb : b < 256) (hk : 9 ≤ k) : gf_Mul.f k a b = some ((gm a b : Nat) : Int) := by
  unfold gf_Mul.f gm
  rw [wrap64_nat a (by omega)]
  exact gf_mul_loop 8 k b 0 a (by omega) (by omega) ha (by omega) (by omega)
end Go.Proofs.Ytelgefkfflgbeaa.BVandPoints
/- Powers in the field of 256 elements. -/
namespace Go.Proofs.Ytelgefkfflgbeaa.Gf

/-- The power of an element. -/
def gp (a : Nat) : Nat → Nat
  | 0 => 1
  | n + 1 => gm (gp a n) a

theorem gp_lt (a : Nat) (ha : a < 256) : ∀ n, gp a n < 256
  | 0 => by simp [gp]
  | n + 1 => gm_lt _ _ (gp_lt a ha n)
theorem gm_one_left (a : Nat) (ha : a < 256) : gm 1 a = a := by rw [gm_comm 1 a (by decide) ha, gm_one]
theorem gp_one (a : Nat) (ha : a < 256) : gp a 1 = a := by simp [gp, gm_one_left a ha]
theorem gp_add (a : Nat) (ha : a < 256) (m : Nat) : ∀ n, gp a (m + n) = gm (gp a m) (gp a n)
  | 0 => by simp [gp, gm_one]
  | n + 1 => by rw [← Nat.add_assoc, gp, gp, gp_add a ha m n, gm_assoc _ _ _ (gp_lt a ha m) (gp_lt a ha n) ha]
theorem gp_dbl (a : Nat) (ha : a < 256) (n : Nat) : gm (gp a n) (gp a n) = gp a (2 * n) := by rw [Nat.two_mul, gp_add a ha]
theorem gp_succ (a n : Nat) : gm (gp a n) a = gp a (n + 1) := rfl
theorem gp_sq (a : Nat) (ha : a < 256) : ∀ n, gp (gm a a) n = gp a (2 * n)
  | 0 => rfl
  | n + 1 => by
    have h2 : gm a a = gp a 2 := by simp [gp, gm_one_left a ha]
    rw [gp, gp_sq a ha n, h2, ← gp_add a ha]; rfl

theorem ginv_gp (a : Nat) (ha : a < 256) : ginv a = gp a 254 := by
  have h2 : gm a a = gp a 2 := by simp [gp, gm_one_left a ha]
  unfold ginv
  simp only [h2, gp_succ, gp_dbl a ha]
theorem gp_255 (a : Nat) (ha : a < 256) (h0 : a ≠ 0) : gp a 255 = 1 := by
  have := gm_inv a ha h0
  rw [ginv_gp a ha, gm_comm _ _ ha (gp_lt a ha _)] at this
  exact this
theorem gp_256 (a : Nat) (ha : a < 256) : gp a 256 = a := by
  by_cases h0 : a = 0
  · subst h0
    rw [show 256 = 255 + 1 from rfl, gp, gm_zero_right]
  · rw [show 256 = 255 + 1 from rfl, gp, gp_255 a ha h0, gm_one_left a ha]
theorem gp_more (a : Nat) (ha : a < 256) (r : Nat) : ∀ q, gp a (255 * q + r + 1) = gp a (r + 1)
  | 0 => by rw [Nat.mul_zero, Nat.zero_add]
  | q + 1 => by
    rw [show 255 * (q + 1) + r + 1 = (255 * q + r) + 256 by omega, gp_add a ha, gp_256 a ha, gp_succ]
    exact gp_more a ha r q
theorem gp_mod (a : Nat) (ha : a < 256) (n : Nat) (h : 0 < n) : gp a n = gp a ((n - 1) % 255 + 1) := by
  have := gp_more a ha ((n - 1) % 255) ((n - 1) / 255)
  rw [← this]
  congr 1
  omega
theorem gm_cancel (a b c : Nat) (ha : a < 256) (h0 : a ≠ 0) (hb : b < 256) (hc : c < 256) (h : gm a b = gm a c) : b = c := by
  have hi := ginv_lt a ha
  have e := gm_inv a ha h0
  have hb' : gm (ginv a) (gm a b) = b := by rw [← gm_assoc _ _ _ hi ha hb, gm_comm _ _ hi ha, e, gm_one_left b hb]
  have hc' : gm (ginv a) (gm a c) = c := by rw [← gm_assoc _ _ _ hi ha hc, gm_comm _ _ hi ha, e, gm_one_left c hc]
  rw [← hb', h, hc']
theorem inv_unique (a b : Nat) (ha : a < 256) (hb : b < 256) (h : gm a b = 1) : b = ginv a := by
  have h0 : a ≠ 0 := by intro e; rw [e, gm_zero_left] at h; exact absurd h (by decide)
  exact gm_cancel a b (ginv a) ha h0 hb (ginv_lt a ha) (by rw [h, gm_inv a ha h0])
end Go.Proofs.Ytelgefkfflgbeaa.Gf
/- The printed powers are the plain ones. -/
namespace Go.Proofs.Ytelgefkfflgbeaa.BVandPoints
open Go Go.RowKit Go.Proofs.Ytelgefkfflgbeaa.PVandPoints Go.Proofs.Ytelgefkfflgbeaa.Gf Go.Proofs.Ytelgefkfflgbeaa.Bits Go.Proofs.YtelgefkfflgbeaaW.PrintWords Go.Proofs.YtelgefkfflgbeaaW.PrintLast

theorem gf_pow_loop (m : Nat) : ∀ (k a n p : Nat), a < 256 → p < 256 → n < 2 ^ m → n < 9223372036854775808 → 10 + m ≤ k →
    gf_Pow.l0 k a n p = some ((gm p (gp a n) : Nat) : Int) := by
  induction m with
  | zero =>
    intro k a n p ha hp hn hn2 hk
    obtain ⟨k, rfl⟩ : ∃ m, k = m + 1 := ⟨k - 1, by omega⟩
    have h0 : n = 0 := by simp at hn; exact hn
    subst h0
    simp only [gf_Pow.l0, gp]
    rw [if_neg (by omega), gm_one]
  | succ m ih =>
    intro k a n p ha hp hn hn2 hk
    obtain ⟨k, rfl⟩ : ∃ m, k = m + 1 := ⟨k - 1, by omega⟩
    simp only [gf_Pow.l0]
    by_cases h0 : n = 0
    · subst h0
      rw [if_neg (by omega), gp, gm_one]
    have hh : n / 2 < 2 ^ m := by rw [Nat.pow_succ] at hn; omega
    have hsq := gm_lt a a ha
    rw [if_pos (by omega), and1_i64 n hn2, show (n : Int) / 2 = ((n / 2 : Nat) : Int) by omega]
    rcases bit01 n with h | h
    · rw [if_neg (by omega), gf_mul k a a ha ha (by omega)]
      simp only [bnd]
      rw [ih k _ _ p hsq hp hh (by omega) (by omega), gp_sq a ha, show 2 * (n / 2) = n by omega]
    · rw [if_pos (by omega), gf_mul k p a hp ha (by omega)]
      simp only [bnd]
      rw [gf_mul k a a ha ha (by omega)]
      simp only [bnd]
      rw [ih k _ _ _ hsq (gm_lt p a hp) hh (by omega) (by omega), gp_sq a ha, gm_assoc _ _ _ hp ha (gp_lt a ha _), gm_comm a _ ha (gp_lt a ha _), gp_succ,
        show 2 * (n / 2) + 1 = n by omega]

theorem gf_pow (k a n : Nat) (ha : a < 256) (hn : n < 9223372036854775808) (hk : 80 ≤ k) : gf_Pow.f k a n = some ((gp a n : Nat) : Int) := by
  have h := gf_pow_loop 63 k a n 1 ha (by decide) hn hn (by omega)
  rw [gm_one_left _ (gp_lt a ha n)] at h
  exact h
theorem gf_pow_neg (k a : Nat) (n : Int) (hn : n ≤ 0) (hk : 1 ≤ k) : gf_Pow.f k a n = some 1 := by
  obtain ⟨k, rfl⟩ : ∃ m, k = m + 1 := ⟨k - 1, by omega⟩
  simp only [gf_Pow.f, gf_Pow.l0]
  rw [if_neg (by omega)]
end Go.Proofs.Ytelgefkfflgbeaa.BVandPoints
/- The printed product of the document's answer is the plain one. -/
namespace Go.Proofs.Ytelgefkfflgbeaa.BVandPoints
open Go Go.RowKit Go.Proofs.Ytelgefkfflgbeaa.PVandPoints Go.Proofs.Ytelgefkfflgbeaa.Gf Go.Proofs.Ytelgefkfflgbeaa.Bits Go.Proofs.YtelgefkfflgbeaaW.PrintWords Go.Proofs.YtelgefkfflgbeaaW.PrintLast

theorem ref_bit (i : Nat) : ∀ (k n : Nat), n < 9223372036854775808 → i < 64 → i < k → coldframeref02_bit.f k n i = some ((n / 2 ^ i % 2 : Nat) : Int) := by
  induction i with
  | zero =>
    intro k n hn hi hk
    obtain ⟨k, rfl⟩ : ∃ m, k = m + 1 := ⟨k - 1, by omega⟩
    simp only [coldframeref02_bit.f, coldframeref02_bit.l0]
    rw [if_neg (by omega), Int.tmod_eq_emod_of_nonneg (by omega)]
    congr 1; simp
  | succ i ih =>
    intro k n hn hi hk
    obtain ⟨k, rfl⟩ : ∃ m, k = m + 1 := ⟨k - 1, by omega⟩
    simp only [coldframeref02_bit.f, coldframeref02_bit.l0]
    have e1 : wrap64 (Int.tdiv (n : Int) 2) = ((n / 2 : Nat) : Int) := by
      rw [Int.tdiv_eq_ediv_of_nonneg (by omega), wrap64_in _ (by omega) (by omega)]; omega
    have e2 : wrap64 (((i + 1 : Nat) : Int) - 1) = (i : Int) := by rw [wrap64_in _ (by omega) (by omega)]; omega
    rw [if_pos (by omega), e1, e2]
    have := ih k (n / 2) (by omega) (by omega) (by omega)
    simp only [coldframeref02_bit.f] at this
    rw [this, Nat.div_div_eq_div_mul, Nat.pow_succ, Nat.mul_comm 2]

theorem ref_power (i : Nat) : ∀ (k p : Nat), p * 2 ^ i < 9223372036854775808 → i < 64 → i < k → coldframeref02_power.l0 k i p = some ((p * 2 ^ i : Nat) : Int) := by
  induction i with
  | zero =>
    intro k p hp hi hk
    obtain ⟨k, rfl⟩ : ∃ m, k = m + 1 := ⟨k - 1, by omega⟩
    simp only [coldframeref02_power.l0]
    rw [if_neg (by omega)]
    congr 1; simp
  | succ i ih =>
    intro k p hp hi hk
    obtain ⟨k, rfl⟩ : ∃ m, k = m + 1 := ⟨k - 1, by omega⟩
    simp only [coldframeref02_power.l0]
    have hpos : 0 < 2 ^ i := Nat.two_pow_pos i
    have hle : p * 2 ≤ p * 2 ^ (i + 1) := by
      rw [Nat.pow_succ]; exact Nat.mul_le_mul_left p (by omega)
    have e1 : wrap64 ((p : Int) * 2) = ((p * 2 : Nat) : Int) := by
      rw [wrap64_in _ (by omega) (by omega)]; omega
    have e2 : wrap64 (((i + 1 : Nat) : Int) - 1) = (i : Int) := by rw [wrap64_in _ (by omega) (by omega)]; omega
    have e3 : p * 2 * 2 ^ i = p * 2 ^ (i + 1) := by rw [Nat.pow_succ, Nat.mul_assoc, Nat.mul_comm 2]
    rw [if_pos (by omega), e1, e2, ih k (p * 2) (by omega) (by omega) (by omega), e3]

theorem ref_pow2 (i k : Nat) (hi : i < 62) (hk : i < k) : coldframeref02_power.f k i = some ((2 ^ i : Nat) : Int) := by
  unfold coldframeref02_power.f
  have hp : 2 ^ i ≤ 2 ^ 61 := Nat.pow_le_pow_right (by decide) (by omega)
  have := ref_power i k 1 (by omega) (by omega) hk
  simpa using this

theorem ref_down (n : Nat) : ∀ (k p : Nat), n ≤ 7 → p < 2 ^ 15 → 40 ≤ k → coldframeref02_Mul.l1 (k + n) p ((n : Int) + 7) = some ((redA n p % 256 : Nat) : Int) := by
  induction n with
  | zero =>
    intro k p hn hp hk
    obtain ⟨k, rfl⟩ : ∃ m, k = m + 1 := ⟨k - 1, by omega⟩
    simp only [coldframeref02_Mul.l1, redA]
    rw [if_neg (by omega)]
    congr 1
  | succ n ih =>
    intro k p hn hp hk
    rw [show k + (n + 1) = (k + n) + 1 from rfl]
    simp only [coldframeref02_Mul.l1, redA]
    have e0 : ((n + 1 : Nat) : Int) + 7 = ((n + 8 : Nat) : Int) := by omega
    have e1 : wrap64 (((n + 8 : Nat) : Int) - 8) = (n : Int) := by rw [wrap64_in _ (by omega) (by omega)]; omega
    have e2 : wrap64 (((n + 8 : Nat) : Int) - 1) = (n : Int) + 7 := by rw [wrap64_in _ (by omega) (by omega)]; omega
    rw [e0, if_pos (by omega), ref_bit (n + 8) _ p (by omega) (by omega) (by omega)]
    simp only [bnd]
    rw [e1, e2]
    rcases bit01 (p / 2 ^ (n + 8)) with h | h
    · rw [if_neg (by omega), h, Nat.zero_mul, Nat.xor_zero, ih k p (by omega) hp hk]
    · have hq : 2 ^ n ≤ 2 ^ 6 := Nat.pow_le_pow_right (by decide) (by omega)
      have hm : 285 * 2 ^ n ≤ 285 * 2 ^ 6 := Nat.mul_le_mul_left 285 hq
      have hm' : 285 * 2 ^ n < 2 ^ 15 := Nat.lt_of_le_of_lt hm (by decide)
      have e3 : wrap64 (285 * ((2 ^ n : Nat) : Int)) = ((285 * 2 ^ n : Nat) : Int) := by
        show wrap64 (((285 : Nat) : Int) * ((2 ^ n : Nat) : Int)) = _
        rw [← Int.natCast_mul]; exact wrap64_nat _ (Nat.lt_of_lt_of_le hm' (by decide))
      rw [if_pos (by omega), ref_pow2 n _ (by omega) (by omega)]
      simp only [bnd]
      have hx : p ^^^ 285 * 2 ^ n < 2 ^ 15 := Nat.xor_lt_two_pow hp hm'
      rw [e3, xor_i64 p (285 * 2 ^ n) (Nat.lt_of_lt_of_le hp (by decide)) (Nat.lt_of_lt_of_le hm' (by decide)), h, Nat.one_mul, ih k _ (by omega) hx hk]

theorem ref_up (n : Nat) : ∀ (k a b p i : Nat), n + i = 8 → a < 256 → b < 256 → p < 2 ^ 15 → 60 ≤ k →
    coldframeref02_Mul.l0 (k + n) a b p i = some ((redA 7 (clA n (b / 2 ^ i) p (a * 2 ^ i)) % 256 : Nat) : Int) := by
  induction n with
  | zero =>
    intro k a b p i hi ha hb hp hk
    obtain ⟨k, rfl⟩ : ∃ m, k = m + 7 + 1 := ⟨k - 8, by omega⟩
    simp only [coldframeref02_Mul.l0, clA]
    rw [if_neg (by omega)]
    exact ref_down 7 k p (by omega) hp (by omega)
  | succ n ih =>
    intro k a b p i hi ha hb hp hk
    rw [show k + (n + 1) = (k + n) + 1 from rfl]
    simp only [coldframeref02_Mul.l0, clA]
    have e2 : wrap64 ((i : Int) + 1) = ((i + 1 : Nat) : Int) := by rw [wrap64_in _ (by omega) (by omega)]; omega
    have e4 : b / 2 ^ i / 2 = b / 2 ^ (i + 1) := by rw [Nat.div_div_eq_div_mul, Nat.pow_succ]
    have e5 : a * 2 ^ i * 2 = a * 2 ^ (i + 1) := by rw [Nat.pow_succ, Nat.mul_assoc]
    rw [if_pos (by omega), wrap64_nat b (by omega), wrap64_nat a (by omega), ref_bit i _ b (by omega) (by omega) (by omega)]
    simp only [bnd]
    rw [e2, e4, e5]
    rcases bit01 (b / 2 ^ i) with h | h
    · rw [if_neg (by omega), h, Nat.zero_mul, Nat.xor_zero, ih k a b p (i + 1) (by omega) ha hb hp hk]
    · have hq : 2 ^ i ≤ 2 ^ 7 := Nat.pow_le_pow_right (by decide) (by omega)
      have hm : a * 2 ^ i ≤ 255 * 2 ^ 7 := Nat.mul_le_mul (by omega) hq
      have hm' : a * 2 ^ i < 2 ^ 15 := Nat.lt_of_le_of_lt hm (by decide)
      have e3 : wrap64 ((a : Int) * ((2 ^ i : Nat) : Int)) = ((a * 2 ^ i : Nat) : Int) := by
        rw [← Int.natCast_mul]; exact wrap64_nat _ (Nat.lt_of_lt_of_le hm' (by decide))
      rw [if_pos (by omega), ref_pow2 i _ (by omega) (by omega)]
      simp only [bnd]
      have hx : p ^^^ a * 2 ^ i < 2 ^ 15 := Nat.xor_lt_two_pow hp hm'
      rw [e3, xor_i64 p (a * 2 ^ i) (Nat.lt_of_lt_of_le hp (by decide)) (Nat.lt_of_lt_of_le hm' (by decide)), h, Nat.one_mul, ih k a b _ (i + 1) (by omega) ha hb hx hk]

theorem ref_mul (k a b : Nat) (ha : a < 256) (hb : b < 256) (hk : 68 ≤ k) : coldframeref02_Mul.f k a b = some ((gm a b : Nat) : Int) := by
  unfold coldframeref02_Mul.f
  obtain ⟨k, rfl⟩ : ∃ m, k = m + 8 := ⟨k - 8, by omega⟩
  have h := ref_up 8 k a b 0 0 (by omega) ha hb (by omega) (by omega)
  have h1 := ref_eq a b ha hb
  have h2 := gm_lt a b ha
  simp only [Nat.pow_zero, Nat.div_one, Nat.mul_one, h1, Nat.mod_eq_of_lt h2] at h
  exact h
end Go.Proofs.Ytelgefkfflgbeaa.BVandPoints
/- The printed powers of the document's answer are the plain ones. -/
namespace Go.Proofs.Ytelgefkfflgbeaa.BVandPoints
open Go Go.RowKit Go.Proofs.Ytelgefkfflgbeaa.PVandPoints Go.Proofs.Ytelgefkfflgbeaa.Gf Go.Proofs.Ytelgefkfflgbeaa.Bits Go.Proofs.YtelgefkfflgbeaaW.PrintWords Go.Proofs.YtelgefkfflgbeaaW.PrintLast

theorem ref_pow_loop (d : Nat) : ∀ (k a n i : Nat), a < 256 → n < 1000 → i + d = n → 70 + d ≤ k →
    coldframeref02_Pow.l0 k a n (gp a i : Nat) i = some ((gp a n : Nat) : Int) := by
  induction d with
  | zero =>
    intro k a n i ha hn hi hk
    obtain ⟨k, rfl⟩ : ∃ m, k = m + 1 := ⟨k - 1, by omega⟩
    simp only [coldframeref02_Pow.l0]
    rw [if_neg (by omega), show i = n by omega]
  | succ d ih =>
    intro k a n i ha hn hi hk
    obtain ⟨k, rfl⟩ : ∃ m, k = m + 1 := ⟨k - 1, by omega⟩
    simp only [coldframeref02_Pow.l0]
    rw [if_pos (by omega), ref_mul k _ a (gp_lt a ha i) ha (by omega)]
    simp only [bnd]
    rw [show wrap64 ((i : Int) + 1) = ((i + 1 : Nat) : Int) by rw [wrap64_in _ (by omega) (by omega)]; omega]
    exact ih k a n (i + 1) ha hn (by omega) (by omega)

theorem ref_pow (k a n : Nat) (ha : a < 256) (hn : n < 1000) (hk : 70 + n ≤ k) : coldframeref02_Pow.f k a n = some ((gp a n : Nat) : Int) :=
  ref_pow_loop n k a n 0 ha hn (by omega) hk

end Go.Proofs.Ytelgefkfflgbeaa.BVandPoints
/- The first elements whose powers are unlike. -/
namespace Go.Proofs.Ytelgefkfflgbeaa.VPts
open Go Go.Proofs.Ytelgefkfflgbeaa.Gf

/-- Was y one of the first k? -/
def hit (f : Nat → Nat) : Nat → Nat → Bool
  | 0, _ => false
  | k + 1, y => hit f k y || f k == y
def firsts (f : Nat → Nat) : Nat → List Int
  | 0 => []
  | k + 1 => if hit f k (f k) then firsts f k else firsts f k ++ [(k : Int)]
def pws (f : Nat → Nat) : Nat → List Int
  | 0 => []
  | k + 1 => if hit f k (f k) then pws f k else pws f k ++ [(f k : Int)]
theorem pws_succ (f : Nat → Nat) (k : Nat) : pws f (k + 1) = if hit f k (f k) then pws f k else pws f k ++ [(f k : Int)] := rfl
theorem firsts_succ (f : Nat → Nat) (k : Nat) : firsts f (k + 1) = if hit f k (f k) then firsts f k else firsts f k ++ [(k : Int)] := rfl
theorem hit_succ (f : Nat → Nat) (k y : Nat) : hit f (k + 1) y = (hit f k y || f k == y) := rfl
theorem mem_pws (f : Nat → Nat) (k y : Nat) : ((y : Int) ∈ pws f k) ↔ hit f k y = true := by
  induction k with
  | zero => simp [pws, hit]
  | succ k ih =>
    rw [pws_succ, hit_succ]
    by_cases h : hit f k (f k) = true
    · rw [if_pos h, ih]
      constructor
      · intro h2; simp [h2]
      · intro h2
        rcases (Bool.or_eq_true _ _).mp h2 with h3 | h3
        · exact h3
        · rw [beq_iff_eq] at h3; rw [← h3]; exact h
    · rw [if_neg h, List.mem_append, ih]
      simp
      constructor
      · rintro (h2 | h2)
        · exact .inl h2
        · exact .inr (by omega)
      · rintro (h2 | h2)
        · exact .inl h2
        · exact .inr (by omega)
theorem len_same (f : Nat → Nat) (k : Nat) : (pws f k).length = (firsts f k).length := by
  induction k with
  | zero => rfl
  | succ k ih => rw [pws_succ, firsts_succ]; by_cases h : hit f k (f k) = true <;> simp [h, ih]
theorem len_le (f : Nat → Nat) (k : Nat) : (firsts f k).length ≤ k := by
  induction k with
  | zero => simp [firsts]
  | succ k ih => rw [firsts_succ]; by_cases h : hit f k (f k) = true <;> simp [h] <;> omega
theorem pws_nodup (f : Nat → Nat) (k : Nat) : (pws f k).Nodup := by
  induction k with
  | zero => simp [pws]
  | succ k ih =>
    rw [pws_succ]
    by_cases h : hit f k (f k) = true
    · rw [if_pos h]; exact ih
    · rw [if_neg h, List.nodup_append]
      refine ⟨ih, by simp, ?_⟩
      intro a ha b hb
      simp at hb
      subst hb
      intro e
      subst e
      exact h ((mem_pws f k _).mp ha)
theorem pre (f : Nat → Nat) (k d : Nat) : firsts f k <+: firsts f (k + d) := by
  induction d with
  | zero => exact List.prefix_refl _
  | succ d ih =>
    rw [← Nat.add_assoc]
    rw [firsts_succ]
    by_cases h : hit f (k + d) (f (k + d)) = true
    · rw [if_pos h]; exact ih
    · rw [if_neg h]; exact ih.trans (List.prefix_append _ _)
/-- Where it stops: at 256, or as soon as there are n. -/
def Stop (f : Nat → Nat) (n k : Nat) : Prop := k ≤ 256 ∧ (firsts f k).length ≤ n ∧ (k = 256 ∨ (firsts f k).length = n)
theorem stop_one (f : Nat → Nat) (n k k' : Nat) (h : Stop f n k) (h' : Stop f n k') : firsts f k = firsts f k' := by
  have key : ∀ a b, Stop f n a → Stop f n b → a ≤ b → firsts f a = firsts f b := by
    intro a b ha hb hab
    obtain ⟨d, rfl⟩ : ∃ d, b = a + d := ⟨b - a, by omega⟩
    rcases ha.2.2 with h1 | h1
    · have : d = 0 := by have := hb.1; omega
      subst this; rfl
    · have hp := pre f a d
      exact hp.eq_of_length_le (by rw [h1]; exact hb.2.1)
  rcases Nat.le_total k k' with h1 | h1
  · exact key _ _ h h' h1
  · exact (key _ _ h' h h1).symm
theorem firsts_bytes (f : Nat → Nat) (k : Nat) (hk : k ≤ 256) : ∀ x ∈ firsts f k, 0 ≤ x ∧ x < 256 := by
  induction k with
  | zero => intro x hx; cases hx
  | succ k ih =>
    intro x hx
    rw [firsts_succ] at hx
    by_cases h : hit f k (f k) = true
    · rw [if_pos h] at hx; exact ih (by omega) x hx
    · rw [if_neg h, List.mem_append] at hx
      rcases hx with hx | hx
      · exact ih (by omega) x hx
      · simp at hx; omega
theorem gp_zero (n : Nat) (h : 0 < n) : gp 0 n = 0 := by
  obtain ⟨m, rfl⟩ : ∃ m, n = m + 1 := ⟨n - 1, by omega⟩
  show gm (gp 0 m) 0 = 0
  exact gm_zero_right _
theorem gp_255n (a n : Nat) (ha : a < 256) (h0 : a ≠ 0) (hn : 0 < n) : gp a (n % 255) = gp a n := by
  rw [gp_mod a ha n hn]
  rcases Nat.eq_zero_or_pos (n % 255) with h | h
  · rw [h, show (n - 1) % 255 + 1 = 255 by omega, gp_255 a ha h0]; rfl
  · congr 1; omega
end Go.Proofs.Ytelgefkfflgbeaa.VPts
/- The printed Twice, power and Points of the document are the plain ones. -/
namespace Go.Proofs.Ytelgefkfflgbeaa.BVandPoints
open Go Go.RowKit Go.Proofs.Ytelgefkfflgbeaa.PVandPoints Go.Proofs.Ytelgefkfflgbeaa.Gf Go.Proofs.Ytelgefkfflgbeaa.Bits Go.Proofs.Ytelgefkfflgbeaa.VPts Go.Proofs.YtelgefkfflgbeaaW.PrintWords Go.Proofs.YtelgefkfflgbeaaW.PrintLast

theorem inc64 (i : Nat) (h : i < 1000000) : wrap64 ((i : Int) + 1) = ((i + 1 : Nat) : Int) := by rw [wrap64_in _ (by omega) (by omega)]; omega
theorem twice_pass (d : Nat) : ∀ (m : Nat) (xs : List Int) (i j : Nat), j + d = i → i < xs.length → xs.length ≤ 1000 → (∀ q, j ≤ q → q < i → rd xs (i : Int) ≠ rd xs (q : Int)) →
    coldframeref05_Twice.l1 (d + 1 + m) xs i j = coldframeref05_Twice.l0 m xs ((i + 1 : Nat) : Int) := by
  induction d with
  | zero =>
    intro m xs i j hd hi hl hn
    rw [show 0 + 1 + m = m + 1 by omega]
    simp only [coldframeref05_Twice.l1]
    rw [if_neg (by omega), inc64 i (by omega)]
  | succ d ih =>
    intro m xs i j hd hi hl hn
    rw [show d + 1 + 1 + m = (d + 1 + m) + 1 by omega]
    simp only [coldframeref05_Twice.l1]
    rw [if_pos (by omega), if_pos (by omega), if_pos (by omega), if_pos (by omega), if_pos (by omega), if_neg (hn j (Nat.le_refl _) (by omega)), inc64 j (by omega)]
    exact ih m xs i (j + 1) (by omega) hi hl (fun q h1 h2 => hn q (by omega) h2)
theorem twice_hit (d : Nat) : ∀ (m : Nat) (xs : List Int) (i j : Nat), j + d = i → i < xs.length → xs.length ≤ 1000 → (∃ q, j ≤ q ∧ q < i ∧ rd xs (i : Int) = rd xs (q : Int)) →
    coldframeref05_Twice.l1 (d + 1 + m) xs i j = some true := by
  induction d with
  | zero =>
    intro m xs i j hd hi hl ⟨q, h1, h2, _⟩
    omega
  | succ d ih =>
    intro m xs i j hd hi hl ⟨q, h1, h2, h3⟩
    rw [show d + 1 + 1 + m = (d + 1 + m) + 1 by omega]
    simp only [coldframeref05_Twice.l1]
    rw [if_pos (by omega), if_pos (by omega), if_pos (by omega), if_pos (by omega), if_pos (by omega)]
    by_cases h : rd xs (i : Int) = rd xs (j : Int)
    · rw [if_pos h]
    · rw [if_neg h, inc64 j (by omega)]
      exact ih m xs i (j + 1) (by omega) hi hl ⟨q, by rcases Nat.lt_or_ge j q with h4 | h4; exact h4; exact absurd (by rw [h3, show q = j by omega]) h, h2, h3⟩
/-- A row that holds no element twice up to i, and b behind it. -/
theorem twice_from (b : Bool) (xs : List Int) (hl : xs.length ≤ 290) (n : Nat) (hn : n ≤ xs.length) (h0 : ∀ i, i < n → ∀ q, q < i → rd xs (i : Int) ≠ rd xs (q : Int))
    (hb : ∀ k, 600 ≤ k → coldframeref05_Twice.l0 k xs (n : Int) = some b) (d : Nat) : ∀ (k i : Nat), i + d = n → 600 + 300 * d ≤ k → coldframeref05_Twice.l0 k xs (i : Int) = some b := by
  induction d with
  | zero => intro k i hd hk; obtain rfl : i = n := by omega
            exact hb k (by omega)
  | succ d ih =>
    intro k i hd hk
    obtain ⟨k, rfl⟩ : ∃ m, k = m + 1 := ⟨k - 1, by omega⟩
    simp only [coldframeref05_Twice.l0]
    rw [if_pos (by omega)]
    have := twice_pass i (k - i - 1) xs i 0 (by omega) (by omega) (by omega) (fun q _ h2 => h0 i (by omega) q h2)
    rw [show i + 1 + (k - i - 1) = k by omega] at this
    have h3 := ih (k - i - 1) (i + 1) (by omega) (by omega)
    rw [← h3]
    exact this
theorem twice_no (xs : List Int) (hl : xs.length ≤ 290) (h0 : ∀ i, i < xs.length → ∀ q, q < i → rd xs (i : Int) ≠ rd xs (q : Int)) (k : Nat) (hk : 90000 ≤ k) : coldframeref05_Twice.f k xs = some false := by
  unfold coldframeref05_Twice.f
  have := twice_from false xs hl xs.length (Nat.le_refl _) h0 (fun k hk => by
    obtain ⟨k, rfl⟩ : ∃ m, k = m + 1 := ⟨k - 1, by omega⟩
    simp only [coldframeref05_Twice.l0]
    rw [if_neg (by omega)]) xs.length k 0 (by omega) (by omega)
  exact this
theorem twice_yes (xs : List Int) (hl : xs.length ≤ 290) (n : Nat) (hn : n < xs.length) (h0 : ∀ i, i < n → ∀ q, q < i → rd xs (i : Int) ≠ rd xs (q : Int)) (h1 : ∃ q, q < n ∧ rd xs (n : Int) = rd xs (q : Int)) (k : Nat) (hk : 90000 ≤ k) :
    coldframeref05_Twice.f k xs = some true := by
  unfold coldframeref05_Twice.f
  have := twice_from true xs hl n (by omega) h0 (fun k hk => by
    obtain ⟨k, rfl⟩ : ∃ m, k = m + 1 := ⟨k - 1, by omega⟩
    simp only [coldframeref05_Twice.l0]
    rw [if_pos (by omega)]
    obtain ⟨q, h2, h3⟩ := h1
    have := twice_hit n (k - n - 1) xs n 0 (by omega) hn (by omega) ⟨q, by omega, h2, h3⟩
    rw [show n + 1 + (k - n - 1) = k by omega] at this
    exact this) n k 0 (by omega) (by omega)
  exact this
theorem rd_in (xs : List Int) (i : Nat) (h : i < xs.length) : rd xs (i : Int) = xs[i] := by unfold rd; simp [h]
theorem twice_new (p : List Int) (y : Int) (hp : p.Nodup) (hl : p.length ≤ 280) (k : Nat) (hk : 90000 ≤ k) : coldframeref05_Twice.f k (p ++ [y]) = some (decide (y ∈ p)) := by
  have hlen : (p ++ [y]).length = p.length + 1 := by simp
  have h0 : ∀ i, i < p.length → ∀ q, q < i → rd (p ++ [y]) (i : Int) ≠ rd (p ++ [y]) (q : Int) := by
    intro i hi q hq
    rw [rd_in _ i (by omega), rd_in _ q (by omega), List.getElem_append_left hi, List.getElem_append_left (by omega)]
    intro e
    have := (List.getElem_inj hp).mp e
    omega
  by_cases hy : y ∈ p
  · rw [twice_yes (p ++ [y]) (by omega) p.length (by omega) h0 ?_ k hk]
    · simp [hy]
    · obtain ⟨q, hq, e⟩ := List.getElem_of_mem hy
      refine ⟨q, hq, ?_⟩
      rw [rd_in _ p.length (by omega), rd_in _ q (by omega), List.getElem_append_left hq, e]
      simp
  · rw [twice_no (p ++ [y]) (by omega) ?_ k hk]
    · simp [hy]
    · intro i hi q hq
      by_cases h : i < p.length
      · exact h0 i h q hq
      · obtain rfl : i = p.length := by omega
        rw [rd_in _ p.length (by omega), rd_in _ q (by omega), List.getElem_append_left hq]
        simp
        intro e
        exact hy (by rw [e]; exact List.getElem_mem hq)
theorem ref5_power (k a n : Nat) (ha : a < 256) (h1 : 0 < n) (hn : n < 9223372036854775808) (hk : 400 ≤ k) : coldframeref05_power.f k a n = some ((gp a n : Nat) : Int) := by
  unfold coldframeref05_power.f
  by_cases h : a = 0
  · subst h
    rw [if_pos (by rfl), gp_zero n h1]; rfl
  · rw [if_neg (by omega), Int.tmod_eq_emod_of_nonneg (by omega), show ((n : Int) % 255) = ((n % 255 : Nat) : Int) by omega, ref_pow k a (n % 255) ha (by omega) (by omega)]
    simp only [bnd]
    rw [gp_255n a n ha h h1]
theorem ref_points_loop (n e : Nat) (hn1 : n ≤ 256) (he : 0 < e) (he2 : e < 9223372036854775808) (d : Nat) : ∀ (K k : Nat), k + d = 256 → (firsts (fun x => gp x e) k).length ≤ n → 100000 + 2 * d ≤ K →
    ∃ q, Stop (fun x => gp x e) n q ∧ coldframeref05_Points.l0 K n e (firsts (fun x => gp x e) k) (pws (fun x => gp x e) k) k = some (if (firsts (fun x => gp x e) q).length < n then [] else firsts (fun x => gp x e) q) := by
  induction d with
  | zero =>
    intro K k hd hk hK
    obtain ⟨K, rfl⟩ : ∃ m, K = m + 1 + 1 := ⟨K - 2, by omega⟩
    refine ⟨k, ⟨by omega, hk, .inl (by omega)⟩, ?_⟩
    simp only [coldframeref05_Points.l0, coldframeref05_Points.j1]
    rw [if_neg (by omega), if_neg (by decide)]
    by_cases h : (firsts (fun x => gp x e) k).length < n
    · rw [if_pos (by omega), if_pos h]
    · rw [if_neg (by omega), if_neg h]
  | succ d ih =>
    intro K k hd hk hK
    obtain ⟨K, rfl⟩ : ∃ m, K = m + 1 + 1 := ⟨K - 2, by omega⟩
    simp only [coldframeref05_Points.l0, coldframeref05_Points.j1]
    rw [if_pos (by omega)]
    by_cases h : (firsts (fun x => gp x e) k).length < n
    · rw [if_pos (by simp; omega), show ((k : Int)) % 256 = (k : Int) by omega, ref5_power K k e (by omega) he he2 (by omega)]
      have hle := len_le (fun x => gp x e) k
      have hsm := len_same (fun x => gp x e) k
      simp only [bnd, List.nil_append]
      rw [if_pos (by simp; omega), if_pos (by omega), twice_new _ _ (pws_nodup _ k) (by omega) K (by omega)]
      simp only [bnd]
      have hm := mem_pws (fun x => gp x e) k (gp k e)
      by_cases hh : hit (fun x => gp x e) k (gp k e) = true
      · have ef : firsts (fun x => gp x e) (k + 1) = firsts (fun x => gp x e) k := by rw [firsts_succ, if_pos hh]
        have ep : pws (fun x => gp x e) (k + 1) = pws (fun x => gp x e) k := by rw [pws_succ, if_pos hh]
        rw [if_pos (by simp [hm, hh]), inc64 k (by omega)]
        have := ih K (k + 1) (by omega) (by rw [ef]; exact hk) (by omega)
        rw [ef, ep] at this
        exact this
      · have ef : firsts (fun x => gp x e) (k + 1) = firsts (fun x => gp x e) k ++ [(k : Int)] := by rw [firsts_succ, if_neg hh]
        have ep : pws (fun x => gp x e) (k + 1) = pws (fun x => gp x e) k ++ [((gp k e : Nat) : Int)] := by rw [pws_succ, if_neg hh]
        rw [if_neg (by simp [hm, hh]), if_pos (by omega), if_pos (by omega), inc64 k (by omega)]
        have := ih K (k + 1) (by omega) (by rw [ef]; simp; omega) (by omega)
        rw [ef, ep] at this
        exact this
    · rw [if_neg (by simp; omega)]
      refine ⟨k, ⟨by omega, hk, .inr (by omega)⟩, ?_⟩
      rw [if_neg (by omega), if_neg h]
theorem ref_points (n e : Nat) (hn1 : n ≤ 256) (he : 0 < e) (he2 : e < 9223372036854775808) :
    ∃ q, Stop (fun x => gp x e) n q ∧ coldframeref05_Points.f 200000 n e = some (if (firsts (fun x => gp x e) q).length < n then [] else firsts (fun x => gp x e) q) := by
  unfold coldframeref05_Points.f
  exact ref_points_loop n e hn1 he he2 256 200000 0 (by omega) (by simp [firsts]) (by omega)
end Go.Proofs.Ytelgefkfflgbeaa.BVandPoints
/- Words for memory: a slice that reads as a list; a block that is known whole. -/
namespace Go.Proofs.Ytelgefkfflgbeaa.Mem
open Go Go.RowKit
theorem block_of_add (a : Addr) (n : Nat) : (a.add n).block = a.block := by unfold Addr.add; split <;> rfl
theorem add_of_add (a : Addr) (i j : Nat) : (a.add i).add j = a.add (i + j) := by
  unfold Addr.add
  by_cases hi : i = 0 <;> by_cases hj : j = 0 <;> simp [hi, hj, Nat.add_assoc]

def Reads (w : World) (B size : Nat) (A : Option Addr) (n : Nat) (xs : List Value) : Prop :=
  xs.length = n * size ∧ (0 < n → ∃ ad, A = some ad ∧ ad.block < B ∧ ∀ j u, xs[j]? = some u → w.cell? (ad.add j) = some u)

section
variable {w w' : World} {B B' size n : Nat} {A : Option Addr} {xs : List Value}
theorem Reads.none_ : Reads w B size A 0 [] := ⟨by simp, fun h => absurd h (by omega)⟩
theorem Reads.at_ {k : Nat} (h : Reads w B 1 A n xs) (hk : k < n) : ∃ ad u, A = some ad ∧ ad.block < B ∧ xs[k]? = some u ∧ w.cell? (ad.add k) = some u := by
  obtain ⟨ad, e, hb, hc⟩ := h.2 (by omega)
  have hl : k < xs.length := by have := h.1; omega
  exact ⟨ad, xs[k], e, hb, List.getElem?_eq_getElem hl, hc k _ (List.getElem?_eq_getElem hl)⟩
theorem Reads.keep (h : Reads w B size A n xs) (hk : ∀ p : Addr, p.block < B → w'.cell? p = w.cell? p) : Reads w' B size A n xs :=
  ⟨h.1, fun hn => by
    obtain ⟨ad, e, hb, hc⟩ := h.2 hn
    exact ⟨ad, e, hb, fun j u hu => (hk _ (by rw [block_of_add]; exact hb)).trans (hc j u hu)⟩⟩
theorem Reads.more (h : Reads w B size A n xs) (hB : B ≤ B') : Reads w B' size A n xs :=
  ⟨h.1, fun hn => by
    obtain ⟨ad, e, hb, hc⟩ := h.2 hn
    exact ⟨ad, e, by omega, hc⟩⟩
theorem Reads.below (h : Reads w B size A n xs) (hb : Below B w w') : Reads w' B size A n xs := h.keep fun _ hp => hb.cell hp
theorem Reads.drew (h : Reads w B size A n xs) : Reads w.drew B size A n xs := h
theorem Reads.drewN (h : Reads w B size A n xs) (k : Nat) : Reads (w.drewN k) B size A n xs := h
theorem Reads.alloc (h : Reads w B size A n xs) (hB : B ≤ w.heap.size) (o : Obj) : Reads (w.alloc o) B size A n xs := h.keep fun p hp => World.cell?_alloc_lt w o p (by omega)
theorem Reads.setCell (h : Reads w B size A n xs) {p : Addr} (hB : B ≤ p.block) (u : Value) : Reads (w.setCell p u) B size A n xs :=
  h.keep fun q hq => World.cell?_setCell_other w p q u (fun e => by subst e; omega)
theorem Reads.grown (h : Reads w B size A n xs) {row : Option Nat} (hg : w.grownBy w' row) (hB : B ≤ w.heap.size) (hr : ∀ g, row = some g → B ≤ g) : Reads w' B size A n xs :=
  h.keep fun p hp => World.cell?_of_block (hg.block p.block (by omega) (fun e => by have := hr _ e.symm; omega))
theorem Reads.cut (h : Reads w B size A n xs) {k cap : Nat} (hk : k ≤ n) (hc : n ≤ cap) :
    Reads w B size (if cap = k then A else A.map (·.add (k * size))) (n - k) (xs.drop (k * size)) := by
  refine ⟨by rw [List.length_drop, h.1, Nat.sub_mul], fun hn => ?_⟩
  obtain ⟨ad, rfl, hb, hcell⟩ := h.2 (by omega)
  rw [if_neg (by omega)]
  refine ⟨ad.add (k * size), rfl, by rw [block_of_add]; exact hb, fun j u hu => ?_⟩
  rw [add_of_add]
  exact hcell _ u (by rw [← hu, List.getElem?_drop])
theorem Reads.of_own {base : Nat} {e : TypeId} {c : Nat} (h : w.ownsRow base e size (.slice A n c) n xs) : Reads w w.heap.size size A n xs := by
  refine ⟨h.1, fun hn => ?_⟩
  obtain ⟨g, cap, hv, _, hlt⟩ := h.form hn
  have hA : A = some ⟨g, 0, none⟩ := by injection hv
  subst hA
  exact ⟨_, rfl, hlt, h.cells (g := g) rfl⟩
end
def Blk (w : World) (g : Nat) (t : TypeId) (cs : Array Value) : Prop := w.heap[g]? = some (.cells cs t (0, 0))

section
variable {w w' : World} {g : Nat} {t : TypeId} {cs : Array Value}
theorem Blk.lt (h : Blk w g t cs) : g < w.heap.size := by
  rcases Nat.lt_or_ge g w.heap.size with hlt | hge
  · exact hlt
  · unfold Blk at h; rw [Array.getElem?_eq_none hge] at h; cases h
theorem Blk.cell (h : Blk w g t cs) (i : Nat) : w.cell? ⟨g, i, none⟩ = cs[i]? := cell_of_row w g i cs t (0, 0) h
theorem Blk.frozen (h : Blk w g t cs) (i : Nat) : w.frozen? ⟨g, i, none⟩ = false := by
  unfold Blk at h
  simp [World.frozen?, h]
theorem Blk.new (w : World) (t : TypeId) (cs : Array Value) : Blk (w.alloc (.cells cs t)) w.heap.size t cs := heap_alloc_new w _
theorem Blk.drew (h : Blk w g t cs) : Blk w.drew g t cs := h
theorem Blk.drewN (h : Blk w g t cs) (n : Nat) : Blk (w.drewN n) g t cs := h
theorem Blk.alloc (h : Blk w g t cs) (o : Obj) : Blk (w.alloc o) g t cs := (Below.heap_alloc w o g h.lt).trans h
theorem Blk.set_ (h : Blk w g t cs) (i : Nat) (u : Value) : Blk (w.setCell ⟨g, i, none⟩ u) g t (cs.setIfInBounds i u) := by
  unfold Blk at h ⊢
  simp [World.setCell, Array.getElem?_modify, h]
theorem Blk.far (h : Blk w g t cs) {p : Addr} (hp : g ≠ p.block) (u : Value) : Blk (w.setCell p u) g t cs := (Below.heap_setCell w p u g hp).trans h
theorem Blk.below {B : Nat} (h : Blk w g t cs) (hb : Below B w w') (hg : g < B) : Blk w' g t cs := (hb.block g hg).trans h
theorem Blk.grown {row : Option Nat} (h : Blk w g t cs) (hb : w.grownBy w' row) (hg : some g ≠ row) : Blk w' g t cs := (hb.block g h.lt hg).trans h
theorem Blk.ne_ {g' : Nat} {t' : TypeId} {cs' : Array Value} (h : Blk w g t cs) (h' : Blk w g' t' cs') (hne : t ≠ t') : g ≠ g' := by
  rintro rfl
  unfold Blk at h h'
  rw [h] at h'
  injection h' with h'
  injection h' with _ ht
  exact hne ht
theorem own_blk_ne {base : Nat} {e : TypeId} {size n : Nat} {v : Value} {xs : List Value} (h : w.ownsRow base e size v n xs) (hg : Blk w g t cs) (hne : e ≠ t) : v.ownBlock ≠ some g := by
  rcases h.2 with ⟨rfl, _⟩ | ⟨g', cap, cur, rfl, _, hh, _⟩
  · simp [Value.ownBlock]
  · intro he
    have : g' = g := by simpa [Value.ownBlock] using he
    subst this
    exact Blk.ne_ (t := e) hh hg hne rfl
end
end Go.Proofs.Ytelgefkfflgbeaa.Mem
/- vand.Points, walked by hand. -/
namespace Go.Proofs.Ytelgefkfflgbeaa.VPts
open Go Go.RowKit Go.Proofs.Ytelgefkfflgbeaa.PVandPoints Go.Proofs.Ytelgefkfflgbeaa.BVandPoints Go.Proofs.Ytelgefkfflgbeaa.Gf Go.Proofs.Ytelgefkfflgbeaa.Bits Go.Proofs.Ytelgefkfflgbeaa.Mem Go.Proofs.YtelgefkfflgbeaaW.PrintWords Go.Proofs.YtelgefkfflgbeaaW.PrintLast
set_option linter.unusedVariables false

def Z256 : Array Value := Array.replicate 256 (.bool false)
theorem zero_256 (w : World) : (zeroValue 46).run Try.prog w = .ok (.agg Z256) w := by kernel_rfl
theorem info_byte : (Try.prog.info? 5).map (fun i => (i.zero, i.size, i.bytes)) = some (some (.int .u8 0), 1, 1) := by kernel_rfl
/-- The cells tell what was hit behind k rounds. -/
def Seen (f : Nat → Nat) (k : Nat) (cs : Array Value) : Prop := cs.size = 256 ∧ ∀ y, y < 256 → cs[y]? = some (.bool (hit f k y))
theorem seen0 (f : Nat → Nat) : Seen f 0 Z256 := by
  refine ⟨by simp [Z256], fun y hy => ?_⟩
  simp [Z256, hit, hy]
theorem seen_same (f : Nat → Nat) (k : Nat) (cs : Array Value) (h : Seen f k cs) (hh : hit f k (f k) = true) : Seen f (k + 1) cs := by
  refine ⟨h.1, fun y hy => ?_⟩
  rw [h.2 y hy, hit_succ]
  by_cases e : f k = y
  · subst e; simp [hh]
  · simp [e]
theorem seen_more (f : Nat → Nat) (k : Nat) (cs : Array Value) (h : Seen f k cs) (hf : f k < 256) : Seen f (k + 1) (cs.setIfInBounds (f k) (.bool true)) := by
  refine ⟨by simp [h.1], fun y hy => ?_⟩
  rw [hit_succ, Array.getElem?_setIfInBounds]
  by_cases e : f k = y
  · subst e; simp [h.1, hf]
  · rw [if_neg e, h.2 y hy]; simp [e]

theorem byte_append {P : Program} {ops : Array Oper} {rest : List Oper} {o : Oper} {a : Act} {Q : Exit → Act → World → Prop} {w0 W : World} (hP : P = Try.prog) (base : Nat) (hgd : o.guard = none) (s x : Operand)
    (ho : o.op = .call { callee := .builtin .append, args := #[s, x], argTypes := #[22, 22] }) (v : Value) (xs : List Int) (y : Int) (ok : Nat → Prop)
    (hs : a.eval s = v) (hx : a.eval x = .slice (some ⟨W.heap.size, 0, none⟩) 1 1) (HR : Kd.R (Kd.int .u8) 5 W base ok v xs) (hok : ∀ k, W.heap.size ≤ k → ok k) (HB : Below base w0 W) (hbase : base ≤ W.heap.size) (hl : xs.length ≤ 1000000)
    (h : ∀ v1 w1, Kd.R (Kd.int .u8) 5 w1 base ok v1 (xs ++ [y]) → Below base w0 w1 → W.grownBy w1 v.ownBlock → wpList P ops Q rest (a.put o.dst v1) w1) :
    wpList P ops Q (o :: rest) a (W.alloc (.cells #[.int .u8 y] 5)) := by
  subst hP
  exact Kd.R_append (Kd.int .u8) (w0 := w0) base hgd s x 22 5 (.int .u8 0) 1 ho Try.underlying22 info_byte rfl (by decide) (by decide) v xs y [.int .u8 y] ok (fun _ => False) hs hx rfl (fun _ hk => hk.elim) hok HR HB hbase (by omega) (fun v1 w1 h1 h2 h3 _ => h v1 w1 h1 h2 h3)

set_option maxRecDepth 100000 in
theorem points_bad (n e : Int) (w : World) (h : n < 1 ∨ e < 1) :
    Calls Try.prog 7 #[.int .i64 n, .int .i64 e] w fun e' w' => e' = .returned (.tuple #[.slice none 0 0, .int .i64 1]) ∧ Below w.heap.size w w' := by
  have hz := zero_256
  by_cases h1 : n < 1
  · have t1 : decide (n < 1) = true := by simp; omega
    clear h h1
    go_enter Try.func7, Try.ntmps7
    go_wp2
    repeat (go_quiet (fail); try go_wp2)
    go_ret2
    exact ⟨rfl, (by repeat (first | exact Below.refl _ _ | apply pw_below_drewN | refine Below.alloc ?_ (Nat.le_refl _) _))⟩
  · have t1 : decide (n < 1) = false := by simp; omega
    have t2 : decide (e < 1) = true := by simp; omega
    clear h h1
    go_enter Try.func7, Try.ntmps7
    go_wp2
    repeat (go_quiet (fail); try go_wp2)
    go_ret2
    exact ⟨rfl, (by repeat (first | exact Below.refl _ _ | apply pw_below_drewN | refine Below.alloc ?_ (Nat.le_refl _) _))⟩

set_option maxRecDepth 100000 in
theorem points_good (n e : Nat) (w : World) (h1 : 1 ≤ n) (h2 : 1 ≤ e) (he : e < 9223372036854775808) :
    Calls Try.prog 7 #[.int .i64 n, .int .i64 e] w fun e' w' => ∃ v q, Stop (fun x => gp x e) n q ∧
      e' = .returned (.tuple #[v, .int .i64 (if (firsts (fun x => gp x e) q).length < n then 1 else 0)]) ∧ Kd.R (Kd.int .u8) 5 w' w.heap.size (fun _ => True) v (if (firsts (fun x => gp x e) q).length < n then [] else firsts (fun x => gp x e) q) ∧ Below w.heap.size w w' := by
  have hz := zero_256
  have t1 : decide ((n : Int) < 1) = false := by simp; omega
  have t2 : decide ((e : Int) < 1) = false := by simp; omega
  obtain ⟨f, hf⟩ : ∃ f : Nat → Nat, f = fun x => gp x e := ⟨_, rfl⟩
  rw [← hf]
  have HF := Lib.hid hf
  clear hf
  go_enter Try.func7, Try.ntmps7
  go_upto_region 6 with (fail)
  repeat (go_quiet (fail); try go_upto_region 6 with (fail))
  clear hz t1 t2
  have HB0 := Lib.hid (show Below w.heap.size w (w.alloc (.cells Z256 46)) from (Below.refl _ _).alloc (Nat.le_refl _) _)
  have HG0 := Lib.hid (show ∃ cs, Blk (w.alloc (.cells Z256 46)) w.heap.size 46 cs ∧ Seen f 0 cs from ⟨Z256, Blk.new _ _ _, seen0 f⟩)
  have HR0 := Lib.hid (Kd.R_nil (Kd.int .u8) 5 (w.alloc (.cells Z256 46)) w.heap.size (fun b => b ≠ w.heap.size))
  go_loopw [7, 8] (fun v7 v8 wr => ∃ (k : Nat), k ≤ 256 ∧ (firsts f k).length ≤ n ∧ v8 = .int .i64 (k : Nat) ∧ Hid (Kd.R (Kd.int .u8) 5 wr w.heap.size (fun b => b ≠ w.heap.size) v7 (firsts f k)) ∧ Hid (∃ cs, Blk wr w.heap.size 46 cs ∧ Seen f k cs) ∧ Hid (Below w.heap.size w wr)) (fun _ v8 _ => 256 - (intOf v8).toNat)
  case atStart => exact ⟨0, by omega, by simp [firsts], rfl, HR0, HG0, HB0⟩
  case round =>
    obtain ⟨k, hk, hle, rfl, HR, HG, HB⟩ := hrel
    clear HB0 HG0 HR0
    obtain ⟨A7, c7, rfl⟩ := Kd.R_slice HR.out
    obtain ⟨ln, hln⟩ : ∃ ln, ln = (firsts f k).length := ⟨_, rfl⟩
    rw [← hln] at hle ⊢
    have HLN := Lib.hid hln
    by_cases hlt : k < 256 ∧ ln < n
    · obtain ⟨g1, g2⟩ := hlt
      have t1 : decide ((k : Int) < 256) = true := by simp; omega
      have t2 : decide ((ln : Int) < (n : Int)) = true := by simp; omega
      have e8 : (k : Int) % 256 = (k : Int) := by omega
      have e9 : IntKind.u8.wrap (k : Int) = (k : Int) := by rw [IntKind.wrap_u8]; omega
      have hp := gp_lt k g1 e
      have HP := Lib.hid (gf_pow 200 k e g1 he (by omega))
      rw [show gp k e = f k by rw [HF.out]] at hp HP
      obtain ⟨p, hpp⟩ : ∃ p, p = f k := ⟨_, rfl⟩
      rw [← hpp] at hp HP
      obtain ⟨cs, hb, hs⟩ := HG.out
      have hc := (hb.cell p).trans (hs.2 p hp)
      have HPP := Lib.hid hpp
      have HBL := Lib.hid hb
      have HSN := Lib.hid hs
      have p0 : (0 : Int) ≤ (p : Int) := by omega
      have p1 : (p : Int) < 256 := by omega
      have p2 : ((p : Int)).toNat = p := by omega
      clear hln hpp hb hs HG
      by_cases hh : hit f k p = true
      · rw [hh] at hc
        go_wp2_with ((go_at_call 24; (with_reducible refine (gf_Pow.calls 200 _ _ _ _ HP.out).mono ?_); rintro e w' ⟨rfl, ⟨nd, rfl⟩⟩))
        have ef : firsts f (k + 1) = firsts f k := by rw [firsts_succ, if_pos (by rw [← HPP.out]; exact hh)]
        go_roundw
        case rel => exact ⟨k + 1, by omega, by rw [ef, ← HLN.out]; exact hle, by go_num, by rw [ef, HLN.out]; exact Lib.hid (Kd.R_drewN HR.out _), Lib.hid ⟨cs, HBL.out.drewN _, seen_same f k cs HSN.out (by rw [← HPP.out]; exact hh)⟩, Lib.hid (pw_below_drewN HB.out _)⟩
        case measure => simp [intOf]; omega
      · rw [Bool.eq_false_iff.mpr hh] at hc
        have ef : firsts f (k + 1) = firsts f k ++ [(k : Int)] := by rw [firsts_succ, if_neg (by rw [← HPP.out]; exact hh)]
        have hfz := HBL.out.frozen p
        have HEF := Lib.hid ef
        clear ef
        have hrlt := Kd.R_away HR.out (g := w.heap.size) (fun b hb => hb)
        have HAW := Lib.hid hrlt
        have HRS := Lib.hid (fun m => Kd.R_far (Kd.R_drewN HR.out m) (p := ⟨w.heap.size, p, none⟩) (fun b hb => hb) (.bool true))
        have HBS := Lib.hid (fun m => (pw_below_drewN HB.out m).setCell (p := ⟨w.heap.size, p, none⟩) (Nat.le_refl _) (.bool true))
        have HGS := Lib.hid (fun m => (HBL.out.drewN m).set_ p (.bool true))
        have HSZ := Lib.hid HB.out.size
        have HOK := Lib.hid (show ∀ m b, ((wr.drewN m).setCell ⟨w.heap.size, p, none⟩ (.bool true)).heap.size ≤ b → b ≠ w.heap.size from fun m b hb => by
          have h3 : wr.heap.size ≤ b := by simpa using hb
          have := HBL.out.lt
          omega)
        clear hrlt
        go_wp2_with (first
          | (go_at_call 24; (with_reducible refine (gf_Pow.calls 200 _ _ _ _ HP.out).mono ?_); rintro e w' ⟨rfl, ⟨nd, rfl⟩⟩)
          | (at_builtin; refine byte_append (w0 := w) rfl w.heap.size rfl _ _ rfl _ (firsts f k) (k : Int) (fun b => b ≠ w.heap.size) rfl ?hx ?hR ?hok ?hB ?hba ?hl ?_; (case hx => first | rfl | (go_simp; done) | simp [go_sem]); (case hR => rw [HLN.out]; exact HRS.out _); (case hok => exact HOK.out _); (case hB => exact HBS.out _); (case hba => simpa using HSZ.out); (case hl => have := len_le f k; omega); intro v1 w1 h1 h2 h3; have HR1 := Lib.hid h1; have HB1 := Lib.hid h2; have HG1 := Lib.hid ((HGS.out _).grown h3 (by first | exact HAW.out | (rw [HLN.out]; exact HAW.out) | (rw [HLN.out] at *; exact HAW.out))); clear h1 h2 h3))
        go_roundw
        case rel => exact ⟨k + 1, by omega, by rw [HEF.out]; simp; rw [← HLN.out]; omega, by go_num, by rw [HEF.out]; exact HR1, Lib.hid ⟨_, HG1.out, by rw [HPP.out]; exact seen_more f k cs HSN.out (by rw [← HPP.out]; exact hp)⟩, HB1⟩
        case measure => simp [intOf]; omega
    · by_cases g1 : k < 256
      · have t1 : decide ((k : Int) < 256) = true := by simp; omega
        have t2 : decide ((ln : Int) < (n : Int)) = false := by simp; omega
        have hst : Stop f n k := ⟨hk, by rw [← HLN.out]; exact hle, .inr (by rw [← HLN.out]; omega)⟩
        have HST := Lib.hid hst
        have g3 : ¬ ln < n := by omega
        clear hst hlt
        go_wp2
        refine bodyPost_ret (v := .tuple #[.slice A7 ln c7, .int .i64 0]) (by simp [results, Try.results7, go_sem]) rfl ⟨.slice A7 ln c7, k, HST.out, ?_, ?_, ?_⟩
        · rw [← HLN.out, if_neg (by simpa using t2)]
        · rw [← HLN.out, if_neg (by simpa using t2), HLN.out]; exact Kd.R_mono HR.out (fun _ _ => trivial)
        · exact HB.out
      · have t1 : decide ((k : Int) < 256) = false := by simp; omega
        obtain rfl : k = 256 := by omega
        by_cases g2 : ln < n
        · have t2 : decide ((ln : Int) < (n : Int)) = true := by simp; omega
          have HST := Lib.hid (show Stop f n 256 from ⟨hk, by rw [← HLN.out]; exact hle, .inl rfl⟩)
          clear hlt g1
          go_wp2
          refine bodyPost_ret (v := .tuple #[.slice none 0 0, .int .i64 1]) (by simp [results, Try.results7, go_sem]) rfl ⟨.slice none 0 0, 256, HST.out, ?_, ?_, ?_⟩
          · rw [← HLN.out, if_pos g2]
          · rw [← HLN.out, if_pos g2]; exact Kd.R_nil _ _ _ _ _
          · exact HB.out
        · have t2 : decide ((ln : Int) < (n : Int)) = false := by simp; omega
          have HST := Lib.hid (show Stop f n 256 from ⟨hk, by rw [← HLN.out]; exact hle, .inl rfl⟩)
          have g3 : ¬ ln < n := by omega
          clear hlt g1
          go_wp2
          refine bodyPost_ret (v := .tuple #[.slice A7 ln c7, .int .i64 0]) (by simp [results, Try.results7, go_sem]) rfl ⟨.slice A7 ln c7, 256, HST.out, ?_, ?_, ?_⟩
          · rw [← HLN.out, if_neg g2]
          · rw [← HLN.out, if_neg g2, HLN.out]; exact Kd.R_mono HR.out (fun _ _ => trivial)
          · exact HB.out
end Go.Proofs.Ytelgefkfflgbeaa.VPts
/- VandPoints, walked by hand. -/
namespace Go.Proofs.Ytelgefkfflgbeaa.VPts
open Go Go.RowKit Go.Proofs.Ytelgefkfflgbeaa.PVandPoints Go.Proofs.Ytelgefkfflgbeaa.BVandPoints Go.Proofs.Ytelgefkfflgbeaa.Gf Go.Proofs.Ytelgefkfflgbeaa.Bits Go.Proofs.Ytelgefkfflgbeaa.Mem Go.Proofs.YtelgefkfflgbeaaW.PrintWords Go.Proofs.YtelgefkfflgbeaaW.PrintLast
set_option linter.unusedVariables false

theorem str_of {w : World} {A : Option Addr} {n c : Nat} {xs : List Int} {base : Nat} {ok : Nat → Prop} (h : Kd.R (Kd.int .u8) 5 w base ok (.slice A n c) xs) : (convert 22 9 (.slice A n c)).run Try.prog w = .ok (.string (strOfNums xs)) w := by
  obtain ⟨h1, h2, h3⟩ := Kd.R_reads' h
  subst h1
  exact Kd.C_string Try.underlying22 Try.underlying5 Try.underlying9 h3
theorem stop33 (q : Nat) (h : Stop (fun x => gp x 3) 3 q) : firsts (fun x => gp x 3) q = [0, 1, 2] := by
  have h3 : firsts (fun x => gp x 3) 3 = [0, 1, 2] := by decide +kernel
  have : Stop (fun x => gp x 3) 3 3 := ⟨by omega, by rw [h3]; decide, .inr (by rw [h3]; rfl)⟩
  rw [stop_one _ 3 q 3 h this, h3]
theorem str012 : strOfNums [0, 1, 2] = ByteArray.mk #[0, 1, 2] := by decide +kernel

set_option maxRecDepth 100000 in
theorem awake_calls (w : World) : Calls Try.prog 8 #[] w fun e w' => e = .returned (.bool true) ∧ Below w.heap.size w w' := by
  have hs : ((strOfNums [0, 1, 2]).toList == [0, 1, 2]) = true := by decide +kernel
  go_enter Try.func8, Try.ntmps8
  go_upto_region 2 with (go_at_call 7; (refine (points_good 3 3 w (by omega) (by omega) (by omega)).mono ?_); rintro e w1 ⟨v, q, hq, he, hr, hb⟩; rw [stop33 q hq] at he hr; subst he; have HR := Lib.hid hr; have HB := Lib.hid hb; clear hr hb hq)
  obtain ⟨A1, c1, rfl⟩ := Kd.R_slice HR.out
  have hc := str_of HR.out
  rw [if_neg (by decide)] at hc
  simp only [List.length_cons, List.length_nil] at hc
  go_wp2
  repeat (go_quiet (fail); try go_wp2)
  go_ret
  first | exact ⟨rfl, HB.out⟩ | exact ⟨rfl, pw_below_drewN HB.out _⟩

set_option maxRecDepth 100000 in
theorem law_bad (n e : Int) (w : World) (h : n < 1 ∨ e < 1) :
    Calls Try.prog 3 #[.int .i64 n, .int .i64 e] w fun e w' => e = .returned (.bool true) ∧ Below w.heap.size w w' := by
  have HH := Lib.hid h
  by_cases h1 : n < 1
  · have t1 : decide (n < 1) = true := by simp; omega
    clear h h1
    go_enter Try.func3, Try.ntmps3
    go_wp2_with (first | (go_at_call 7; (with_reducible refine (points_bad _ _ _ HH.out).mono ?_); rintro e w1 ⟨rfl, hb⟩; have HB := Lib.hid hb; clear hb) | (go_at_call 8; (with_reducible refine (awake_calls _).mono ?_); rintro e w9 ⟨rfl, hb⟩; have HB9 := Lib.hid hb; clear hb))
    repeat (go_quiet (fail); try go_wp2_with ((go_at_call 8; (with_reducible refine (awake_calls _).mono ?_); rintro e w9 ⟨rfl, hb⟩; have HB9 := Lib.hid hb; clear hb)))
    go_ret
    exact ⟨rfl, HB.out.trans (HB9.out.mono HB.out.size)⟩
  · have t1 : decide (n < 1) = false := by simp; omega
    have t2 : decide (e < 1) = true := by simp; omega
    clear h h1
    go_enter Try.func3, Try.ntmps3
    go_wp2_with (first | (go_at_call 7; (with_reducible refine (points_bad _ _ _ HH.out).mono ?_); rintro e w1 ⟨rfl, hb⟩; have HB := Lib.hid hb; clear hb) | (go_at_call 8; (with_reducible refine (awake_calls _).mono ?_); rintro e w9 ⟨rfl, hb⟩; have HB9 := Lib.hid hb; clear hb))
    repeat (go_quiet (fail); try go_wp2_with ((go_at_call 8; (with_reducible refine (awake_calls _).mono ?_); rintro e w9 ⟨rfl, hb⟩; have HB9 := Lib.hid hb; clear hb)))
    go_ret
    exact ⟨rfl, HB.out.trans (HB9.out.mono HB.out.size)⟩

set_option maxRecDepth 100000 in
theorem law_big (n e : Nat) (w : World) (h1 : 1 ≤ n) (h2 : 1 ≤ e) (he : e < 9223372036854775808) (hb : 256 < n) :
    Calls Try.prog 3 #[.int .i64 n, .int .i64 e] w fun e w' => e = .returned (.bool true) ∧ Below w.heap.size w w' := by
  have t1 : decide ((n : Int) < 1) = false := by simp; omega
  have t2 : decide ((e : Int) < 1) = false := by simp; omega
  have t3 : decide ((n : Int) > 256) = true := by simp; omega
  have t4 : 256 < n := hb
  go_enter Try.func3, Try.ntmps3
  go_upto_region 2 with ((go_at_call 7; (refine (points_good n e w h1 h2 he).mono ?_); rintro e' w1 ⟨v, q1, hq1, he', hr, hb⟩; have HQ1 := Lib.hid hq1; have HR := Lib.hid hr; have HB := Lib.hid hb; clear hr hb hq1; obtain ⟨A5, c5, e5⟩ := Kd.R_slice HR.out; subst e5; subst he'))
  have hlt : (firsts (fun x => gp x e) q1).length < n := by have := len_le (fun x => gp x e) q1; have := HQ1.out.1; omega
  rw [if_pos hlt, if_pos hlt]
  simp only [List.length_nil]
  clear hlt
  go_wp2_with ((go_at_call 8; (with_reducible refine (awake_calls _).mono ?_); rintro e w9 ⟨rfl, hb⟩; have HB9 := Lib.hid hb; clear hb))
  repeat (go_quiet (fail); try go_wp2_with ((go_at_call 8; (with_reducible refine (awake_calls _).mono ?_); rintro e w9 ⟨rfl, hb⟩; have HB9 := Lib.hid hb; clear hb)))
  go_ret
  exact ⟨rfl, HB.out.trans (HB9.out.mono HB.out.size)⟩

set_option maxRecDepth 100000 in
theorem law_good (n e : Nat) (w : World) (h1 : 1 ≤ n) (h2 : 1 ≤ e) (he : e < 9223372036854775808) (hb : n ≤ 256) :
    Calls Try.prog 3 #[.int .i64 n, .int .i64 e] w fun e w' => e = .returned (.bool true) ∧ Below w.heap.size w w' := by
  have t1 : decide ((n : Int) < 1) = false := by simp; omega
  have t2 : decide ((e : Int) < 1) = false := by simp; omega
  have t3 : decide ((n : Int) > 256) = false := by simp; omega
  have t4 : ¬ 256 < n := by omega
  obtain ⟨q2, hq2, href⟩ := ref_points n e hb h2 he
  have HRef := Lib.hid href
  have HQ2 := Lib.hid hq2
  clear href hq2
  go_enter Try.func3, Try.ntmps3
  go_upto_region 2 with ((go_at_call 7; (refine (points_good n e w h1 h2 he).mono ?_); rintro e' w1 ⟨v, q1, hq1, he', hr, hb⟩; have HQ1 := Lib.hid hq1; have HR := Lib.hid hr; have HB := Lib.hid hb; clear hr hb hq1; obtain ⟨A5, c5, e5⟩ := Kd.R_slice HR.out; subst e5; subst he'))
  have HE := Lib.hid (stop_one _ _ _ _ HQ1.out HQ2.out)
  obtain ⟨xs, hxs⟩ : ∃ xs, xs = firsts (fun x => gp x e) q1 := ⟨_, rfl⟩
  rw [← HE.out, ← hxs] at HRef
  rw [← hxs] at HR ⊢
  have HXS := Lib.hid hxs
  have hle : xs.length ≤ n := by rw [hxs]; exact HQ1.out.2.1
  clear hxs
  by_cases hlt : xs.length < n
  · rw [if_pos hlt] at HRef HR ⊢
    rw [if_pos hlt]
    simp only [List.length_nil]
    clear hlt hle
    go_wp2_with (first | (go_at_call 9; (with_reducible refine (coldframeref05_Points.calls 200000 _ _ _ _ HRef.out).mono ?_); rintro e w2 ⟨v7, rfl, hr, hb⟩; obtain ⟨A7, c7, e7⟩ := Kd.R_slice hr; subst e7; have HR7 := Lib.hid hr; have HB2 := Lib.hid (show Below w.heap.size w w2 from HB.out.trans (hb.mono HB.out.size)); clear hr hb) | (go_at_call 8; (with_reducible refine (awake_calls _).mono ?_); rintro e w9 ⟨rfl, hb⟩; have HB9 := Lib.hid hb; clear hb))
    repeat (go_quiet (fail); try go_wp2_with ((go_at_call 8; (with_reducible refine (awake_calls _).mono ?_); rintro e w9 ⟨rfl, hb⟩; have HB9 := Lib.hid hb; clear hb)))
    go_ret
    exact ⟨rfl, HB2.out.trans (HB9.out.mono HB2.out.size)⟩
  · rw [if_neg hlt] at HRef HR ⊢
    rw [if_neg hlt]
    have hn0 : ¬ ((xs.length : Int) = 0) := by omega
    have hn1 : ((xs.length : Int) == 0) = false := by simpa using hn0
    have hn2 : ¬ (xs = []) := fun h => hn0 (by rw [h]; rfl)
    clear hlt hle
    go_upto_region 5 with (first | (go_at_call 9; (with_reducible refine (coldframeref05_Points.calls 200000 _ _ _ _ HRef.out).mono ?_); rintro e w2 ⟨v7, rfl, hr, hb⟩; obtain ⟨A7, c7, e7⟩ := Kd.R_slice hr; subst e7; have HR7 := Lib.hid hr; have HBx := Lib.hid hb; have HB2 := Lib.hid (show Below w.heap.size w w2 from HB.out.trans (hb.mono HB.out.size)); clear hr hb) | (go_at_call 8; (with_reducible refine (awake_calls _).mono ?_); rintro e w9 ⟨rfl, hb⟩; have HB9 := Lib.hid hb; clear hb))
    have k5 := str_of (Kd.R_below HR.out HBx.out)
    have k7 := str_of HR7.out
    have hn3 : ¬ xs.length = 0 := by omega
    go_wp2_with ((go_at_call 8; (with_reducible refine (awake_calls _).mono ?_); rintro e w9 ⟨rfl, hb⟩; have HB9 := Lib.hid hb; clear hb))
    repeat (go_quiet (fail); try go_wp2_with ((go_at_call 8; (with_reducible refine (awake_calls _).mono ?_); rintro e w9 ⟨rfl, hb⟩; have HB9 := Lib.hid hb; clear hb)))
    go_ret
    exact ⟨rfl, HB2.out.trans (HB9.out.mono HB2.out.size)⟩

theorem vp_row (n : Int) (_ : (Lit.int .i64 n).wf = true) (e : Int) (he : (Lit.int .i64 e).wf = true) (w : World) :
    Calls Try.prog 3 #[.int .i64 n, .int .i64 e] w fun e w' => e = .returned (.bool true) ∧ Below w.heap.size w w' := by
  by_cases h : n < 1 ∨ e < 1
  · exact law_bad n e w h
  · have hb : e < 9223372036854775808 := by
      simp [Lit.wf, IntKind.min, IntKind.max, IntKind.signed, IntKind.bits] at he
      omega
    obtain ⟨a, rfl⟩ : ∃ a : Nat, n = a := ⟨n.toNat, by omega⟩
    obtain ⟨b, rfl⟩ : ∃ b : Nat, e = b := ⟨e.toNat, by omega⟩
    by_cases hc : 256 < a
    · exact law_big a b w (by omega) (by omega) (by omega) hc
    · exact law_good a b w (by omega) (by omega) (by omega) (by omega)
end Go.Proofs.Ytelgefkfflgbeaa.VPts
/- The printed product of two elements is the plain one. -/
namespace Go.Proofs.Ytelgefkfflgbeaa.BVandRows
open Go Go.RowKit Go.Proofs.Ytelgefkfflgbeaa.PVandRows Go.Proofs.Ytelgefkfflgbeaa.Gf Go.Proofs.Ytelgefkfflgbeaa.Bits Go.Proofs.YtelgefkfflgbeaaW.PrintWords Go.Proofs.YtelgefkfflgbeaaW.PrintLast

theorem xt_is (x : Nat) (h : x < 256) : (if 255 < x * 2 then x * 2 ^^^ 285 else x * 2) = xt x := by
  have e : ∀ x, x < 256 → (if 255 < x * 2 then x * 2 ^^^ 285 else x * 2) = xt x := by decide +kernel
  exact e x h

theorem gf_mul_loop (n : Nat) : ∀ (k b p x : Nat), b < 2 ^ n → p < 256 → x < 256 → n < k → n ≤ 8 → gf_Mul.l0 k b p x = some ((gmA n b p x : Nat) : Int) := by
  induction n with
  | zero =>
    intro k b p x hb hp hx hk hn
    obtain ⟨k, rfl⟩ : ∃ m, k = m + 1 := ⟨k - 1, by omega⟩
    simp only [gf_Mul.l0, gmA]
    rw [if_neg (by simp at hb; omega)]
    congr 1; omega
  | succ n ih =>
    intro k b p x hb hp hx hk hn
    obtain ⟨k, rfl⟩ : ∃ m, k = m + 1 := ⟨k - 1, by omega⟩
    have hb8 : b < 256 := Nat.lt_of_lt_of_le hb (Nat.pow_le_pow_right (by decide) hn)
    by_cases h0 : b = 0
    · subst h0
      simp only [gf_Mul.l0]
      rw [if_neg (by omega), gmA_zero]
      congr 1; omega
    have hx2 : wrap64 ((x : Int) * 2) = ((x * 2 : Nat) : Int) := by rw [wrap64_in _ (by omega) (by omega)]; omega
    have hb2 : (b : Int) / 2 = ((b / 2 : Nat) : Int) := by omega
    have hlt : b / 2 < 2 ^ n := by rw [Nat.pow_succ] at hb; omega
    have e1 : bits .xor .i64 (p : Int) (x : Int) = ((p ^^^ x : Nat) : Int) := xor_i64 p x (by omega) (by omega)
    have e2 : bits .xor .i64 ((x * 2 : Nat) : Int) 285 = ((x * 2 ^^^ 285 : Nat) : Int) := xor_i64 (x * 2) 285 (by omega) (by omega)
    have hpx : p ^^^ x < 256 := by
      have : p ^^^ x < 2 ^ 8 := Nat.xor_lt_two_pow (by omega) (by omega)
      simpa using this
    simp only [gf_Mul.l0, gmA]
    rw [if_pos (by omega), and1_u8 b hb8, hx2, hb2, e1, e2]
    have hxt := xt_is x hx
    have hxl := xt_lt x
    rcases bit01 b with h | h
    · rw [if_neg (by omega), h, Nat.zero_mul, Nat.xor_zero]
      by_cases hc : 255 < x * 2
      · rw [if_pos (by omega)]
        rw [if_pos hc] at hxt
        rw [hxt, ih k _ _ _ hlt hp hxl (by omega) (by omega)]
      · rw [if_neg (by omega)]
        rw [if_neg hc] at hxt
        rw [hxt, ih k _ _ _ hlt hp hxl (by omega) (by omega)]
    · rw [if_pos (by omega), h, Nat.one_mul]
      by_cases hc : 255 < x * 2
      · rw [if_pos (by omega)]
        rw [if_pos hc] at hxt
        rw [hxt, ih k _ _ _ hlt hpx hxl (by omega) (by omega)]
      · rw [if_neg (by omega)]
        rw [if_neg hc] at hxt
        rw [hxt, ih k _ _ _ hlt hpx hxl (by omega) (by omega)]

theorem gf_mul (k a b : Nat) (ha : a < 256) (hb : b < 256) (hk : 9 ≤ k) : gf_Mul.f k a b = some ((gm a b : Nat) : Int) := by
  unfold gf_Mul.f gm
  rw [wrap64_nat a (by omega)]
  exact gf_mul_loop 8 k b 0 a (by omega) (by omega) ha (by omega) (by omega)
end Go.Proofs.Ytelgefkfflgbeaa.BVandRows
/- The printed product of the document's answer is the plain one. -/
namespace Go.Proofs.Ytelgefkfflgbeaa.BVandRows
open Go Go.RowKit Go.Proofs.Ytelgefkfflgbeaa.PVandRows Go.Proofs.Ytelgefkfflgbeaa.Gf Go.Proofs.Ytelgefkfflgbeaa.Bits Go.Proofs.YtelgefkfflgbeaaW.PrintWords Go.Proofs.YtelgefkfflgbeaaW.PrintLast

theorem ref_bit (i : Nat) : ∀ (k n : Nat), n < 9223372036854775808 → i < 64 → i < k → coldframeref02_bit.f k n i = some ((n / 2 ^ i % 2 : Nat) : Int) := by
  induction i with
  | zero =>
    intro k n hn hi hk
    obtain ⟨k, rfl⟩ : ∃ m, k = m + 1 := ⟨k - 1, by omega⟩
    simp only [coldframeref02_bit.f, coldframeref02_bit.l0]
    rw [if_neg (by omega), Int.tmod_eq_emod_of_nonneg (by omega)]
    congr 1; simp
  | succ i ih =>
    intro k n hn hi hk
    obtain ⟨k, rfl⟩ : ∃ m, k = m + 1 := ⟨k - 1, by omega⟩
    simp only [coldframeref02_bit.f, coldframeref02_bit.l0]
    have e1 : wrap64 (Int.tdiv (n : Int) 2) = ((n / 2 : Nat) : Int) := by
      rw [Int.tdiv_eq_ediv_of_nonneg (by omega), wrap64_in _ (by omega) (by omega)]; omega
    have e2 : wrap64 (((i + 1 : Nat) : Int) - 1) = (i : Int) := by rw [wrap64_in _ (by omega) (by omega)]; omega
    rw [if_pos (by omega), e1, e2]
    have := ih k (n / 2) (by omega) (by omega) (by omega)
    simp only [coldframeref02_bit.f] at this
    rw [this, Nat.div_div_eq_div_mul, Nat.pow_succ, Nat.mul_comm 2]

theorem ref_power (i : Nat) : ∀ (k p : Nat), p * 2 ^ i < 9223372036854775808 → i < 64 → i < k → coldframeref02_power.l0 k i p = some ((p * 2 ^ i : Nat) : Int) := by
  induction i with
  | zero =>
    intro k p hp hi hk
    obtain ⟨k, rfl⟩ : ∃ m, k = m + 1 := ⟨k - 1, by omega⟩
    simp only [coldframeref02_power.l0]
    rw [if_neg (by omega)]
    congr 1; simp
  | succ i ih =>
    intro k p hp hi hk
    obtain ⟨k, rfl⟩ : ∃ m, k = m + 1 := ⟨k - 1, by omega⟩
    simp only [coldframeref02_power.l0]
    have hpos : 0 < 2 ^ i := Nat.two_pow_pos i
    have hle : p * 2 ≤ p * 2 ^ (i + 1) := by
      rw [Nat.pow_succ]; exact Nat.mul_le_mul_left p (by omega)
    have e1 : wrap64 ((p : Int) * 2) = ((p * 2 : Nat) : Int) := by
      rw [wrap64_in _ (by omega) (by omega)]; omega
    have e2 : wrap64 (((i + 1 : Nat) : Int) - 1) = (i : Int) := by rw [wrap64_in _ (by omega) (by omega)]; omega
    have e3 : p * 2 * 2 ^ i = p * 2 ^ (i + 1) := by rw [Nat.pow_succ, Nat.mul_assoc, Nat.mul_comm 2]
    rw [if_pos (by omega), e1, e2, ih k (p * 2) (by omega) (by omega) (by omega), e3]

theorem ref_pow2 (i k : Nat) (hi : i < 62) (hk : i < k) : coldframeref02_power.f k i = some ((2 ^ i : Nat) : Int) := by
  unfold coldframeref02_power.f
  have hp : 2 ^ i ≤ 2 ^ 61 := Nat.pow_le_pow_right (by decide) (by omega)
  have := ref_power i k 1 (by omega) (by omega) hk
  simpa using this

theorem ref_down (n : Nat) : ∀ (k p : Nat), n ≤ 7 → p < 2 ^ 15 → 40 ≤ k → coldframeref02_Mul.l1 (k + n) p ((n : Int) + 7) = some ((redA n p % 256 : Nat) : Int) := by
  induction n with
  | zero =>
    intro k p hn hp hk
    obtain ⟨k, rfl⟩ : ∃ m, k = m + 1 := ⟨k - 1, by omega⟩
    simp only [coldframeref02_Mul.l1, redA]
    rw [if_neg (by omega)]
    congr 1
  | succ n ih =>
    intro k p hn hp hk
    rw [show k + (n + 1) = (k + n) + 1 from rfl]
    simp only [coldframeref02_Mul.l1, redA]
    have e0 : ((n + 1 : Nat) : Int) + 7 = ((n + 8 : Nat) : Int) := by omega
    have e1 : wrap64 (((n + 8 : Nat) : Int) - 8) = (n : Int) := by rw [wrap64_in _ (by omega) (by omega)]; omega
    have e2 : wrap64 (((n + 8 : Nat) : Int) - 1) = (n : Int) + 7 := by rw [wrap64_in _ (by omega) (by omega)]; omega
    rw [e0, if_pos (by omega), ref_bit (n + 8) _ p (by omega) (by omega) (by omega)]
    simp only [bnd]
    rw [e1, e2]
    rcases bit01 (p / 2 ^ (n + 8)) with h | h
    · rw [if_neg (by omega), h, Nat.zero_mul, Nat.xor_zero, ih k p (by omega) hp hk]
    · have hq : 2 ^ n ≤ 2 ^ 6 := Nat.pow_le_pow_right (by decide) (by omega)
      have hm : 285 * 2 ^ n ≤ 285 * 2 ^ 6 := Nat.mul_le_mul_left 285 hq
      have hm' : 285 * 2 ^ n < 2 ^ 15 := Nat.lt_of_le_of_lt hm (by decide)
      have e3 : wrap64 (285 * ((2 ^ n : Nat) : Int)) = ((285 * 2 ^ n : Nat) : Int) := by
        show wrap64 (((285 : Nat) : Int) * ((2 ^ n : Nat) : Int)) = _
        rw [← Int.natCast_mul]; exact wrap64_nat _ (Nat.lt_of_lt_of_le hm' (by decide))
      rw [if_pos (by omega), ref_pow2 n _ (by omega) (by omega)]
      simp only [bnd]
      have hx : p ^^^ 285 * 2 ^ n < 2 ^ 15 := Nat.xor_lt_two_pow hp hm'
      rw [e3, xor_i64 p (285 * 2 ^ n) (Nat.lt_of_lt_of_le hp (by decide)) (Nat.lt_of_lt_of_le hm' (by decide)), h, Nat.one_mul, ih k _ (by omega) hx hk]

theorem ref_up (n : Nat) : ∀ (k a b p i : Nat), n + i = 8 → a < 256 → b < 256 → p < 2 ^ 15 → 60 ≤ k →
    coldframeref02_Mul.l0 (k + n) a b p i = some ((redA 7 (clA n (b / 2 ^ i) p (a * 2 ^ i)) % 256 : Nat) : Int) := by
  induction n with
  | zero =>
    intro k a b p i hi ha hb hp hk
    obtain ⟨k, rfl⟩ : ∃ m, k = m + 7 + 1 := ⟨k - 8, by omega⟩
    simp only [coldframeref02_Mul.l0, clA]
    rw [if_neg (by omega)]
    exact ref_down 7 k p (by omega) hp (by omega)
  | succ n ih =>
    intro k a b p i hi ha hb hp hk
    rw [show k + (n + 1) = (k + n) + 1 from rfl]
    simp only [coldframeref02_Mul.l0, clA]
    have e2 : wrap64 ((i : Int) + 1) = ((i + 1 : Nat) : Int) := by rw [wrap64_in _ (by omega) (by omega)]; omega
    have e4 : b / 2 ^ i / 2 = b / 2 ^ (i + 1) := by rw [Nat.div_div_eq_div_mul, Nat.pow_succ]
    have e5 : a * 2 ^ i * 2 = a * 2 ^ (i + 1) := by rw [Nat.pow_succ, Nat.mul_assoc]
    rw [if_pos (by omega), wrap64_nat b (by omega), wrap64_nat a (by omega), ref_bit i _ b (by omega) (by omega) (by omega)]
    simp only [bnd]
    rw [e2, e4, e5]
    rcases bit01 (b / 2 ^ i) with h | h
    · rw [if_neg (by omega), h, Nat.zero_mul, Nat.xor_zero, ih k a b p (i + 1) (by omega) ha hb hp hk]
    · have hq : 2 ^ i ≤ 2 ^ 7 := Nat.pow_le_pow_right (by decide) (by omega)
      have hm : a * 2 ^ i ≤ 255 * 2 ^ 7 := Nat.mul_le_mul (by omega) hq
      have hm' : a * 2 ^ i < 2 ^ 15 := Nat.lt_of_le_of_lt hm (by decide)
      have e3 : wrap64 ((a : Int) * ((2 ^ i : Nat) : Int)) = ((a * 2 ^ i : Nat) : Int) := by
        rw [← Int.natCast_mul]; exact wrap64_nat _ (Nat.lt_of_lt_of_le hm' (by decide))
      rw [if_pos (by omega), ref_pow2 i _ (by omega) (by omega)]
      simp only [bnd]
      have hx : p ^^^ a * 2 ^ i < 2 ^ 15 := Nat.xor_lt_two_pow hp hm'
      rw [e3, xor_i64 p (a * 2 ^ i) (Nat.lt_of_lt_of_le hp (by decide)) (Nat.lt_of_lt_of_le hm' (by decide)), h, Nat.one_mul, ih k a b _ (i + 1) (by omega) ha hb hx hk]

theorem ref_mul (k a b : Nat) (ha : a < 256) (hb : b < 256) (hk : 68 ≤ k) : coldframeref02_Mul.f k a b = some ((gm a b : Nat) : Int) := by
  unfold coldframeref02_Mul.f
  obtain ⟨k, rfl⟩ : ∃ m, k = m + 8 := ⟨k - 8, by omega⟩
  have h := ref_up 8 k a b 0 0 (by omega) ha hb (by omega) (by omega)
  have h1 := ref_eq a b ha hb
  have h2 := gm_lt a b ha
  simp only [Nat.pow_zero, Nat.div_one, Nat.mul_one, h1, Nat.mod_eq_of_lt h2] at h
  exact h
end Go.Proofs.Ytelgefkfflgbeaa.BVandRows
/- The printed powers of the document's answer are the plain ones. -/
namespace Go.Proofs.Ytelgefkfflgbeaa.BVandRows
open Go Go.RowKit Go.Proofs.Ytelgefkfflgbeaa.PVandRows Go.Proofs.Ytelgefkfflgbeaa.Gf Go.Proofs.Ytelgefkfflgbeaa.Bits Go.Proofs.YtelgefkfflgbeaaW.PrintWords Go.Proofs.YtelgefkfflgbeaaW.PrintLast

theorem ref_pow_loop (d : Nat) : ∀ (k a n i : Nat), a < 256 → n < 1000 → i + d = n → 70 + d ≤ k →
    coldframeref02_Pow.l0 k a n (gp a i : Nat) i = some ((gp a n : Nat) : Int) := by
  induction d with
  | zero =>
    intro k a n i ha hn hi hk
    obtain ⟨k, rfl⟩ : ∃ m, k = m + 1 := ⟨k - 1, by omega⟩
    simp only [coldframeref02_Pow.l0]
    rw [if_neg (by omega), show i = n by omega]
  | succ d ih =>
    intro k a n i ha hn hi hk
    obtain ⟨k, rfl⟩ : ∃ m, k = m + 1 := ⟨k - 1, by omega⟩
    simp only [coldframeref02_Pow.l0]
    rw [if_pos (by omega), ref_mul k _ a (gp_lt a ha i) ha (by omega)]
    simp only [bnd]
    rw [show wrap64 ((i : Int) + 1) = ((i + 1 : Nat) : Int) by rw [wrap64_in _ (by omega) (by omega)]; omega]
    exact ih k a n (i + 1) ha hn (by omega) (by omega)

theorem ref_pow (k a n : Nat) (ha : a < 256) (hn : n < 1000) (hk : 70 + n ≤ k) : coldframeref02_Pow.f k a n = some ((gp a n : Nat) : Int) :=
  ref_pow_loop n k a n 0 ha hn (by omega) hk

end Go.Proofs.Ytelgefkfflgbeaa.BVandRows
/- Slices of bytes cloned: what slices.Clone comes to. -/
namespace Go.Proofs.Ytelgefkfflgbeaa.Mat
open Go Go.RowKit Go.Proofs.Ytelgefkfflgbeaa.Mem Go.Proofs.Ytelgefkfflgbeaa.Bits Go.Proofs.YtelgefkfflgbeaaW.PrintWords
set_option linter.unusedVariables false

theorem info_u8 : (Try.prog.info? 5).map (fun i => (i.zero, i.size, i.bytes)) = some (some (.int .u8 0), 1, 1) := by kernel_rfl

set_option maxRecDepth 100000 in
theorem slice_nil (a : Option Addr) (n c : Nat) (W : World) : (binOp .eql 22 (.slice a n c) (.slice none 0 0)).run Try.prog W = .ok (.bool a.isNone) W :=
  Lib.run_eql_slice_nil W 22 5 a n c 0 0 Try.underlying22
set_option maxRecDepth 100000 in
theorem clone_nil (w : World) :
    Calls Try.prog 35 #[.slice none 0 0] w fun e w' => e = .returned (.slice none 0 0) ∧ w = w' := by
  have kn := slice_nil
  go_enter Try.func35, Try.ntmps35
  go_wp2
  go_ret
  exact ⟨rfl, rfl⟩

set_option maxRecDepth 100000 in
theorem clone_any (ad : Addr) (c : Nat) (xs : List Int) (w : World) (HR : ReadsInt w .u8 (some ad) xs.length xs) (hl : xs.length ≤ 140737488355328) :
    Calls Try.prog 35 #[.slice (some ad) xs.length c] w fun e w' => ∃ v, e = .returned v ∧ w'.ownsRow w.heap.size 5 1 v xs.length (nums .u8 xs) ∧ Below w.heap.size w w' := by
  have H := Lib.hid HR
  clear HR
  have kn := slice_nil
  go_enter Try.func35, Try.ntmps35
  go_wp2_with (at_builtin; refine print_append_row (w0 := w) w.heap.size rfl _ _ 22 5 .u8 1 rfl Try.underlying22 info_u8 (by decide) _ [] xs _ _ _ rfl rfl (own_lit w w.heap.size 5 .u8 [] (Nat.le_refl _) (by simp)) (ReadsInt.allocS H.out _) ((Below.refl _ _).alloc (Nat.le_refl _) _) (by simp) (by simp; omega) ?_; intro v1 w1 ho hb _ _; have HO := Lib.hid ho; have HB := Lib.hid hb; clear ho hb)
  go_ret
  exact ⟨_, rfl, by have := HO.out; simpa using this, HB.out⟩
end Go.Proofs.Ytelgefkfflgbeaa.Mat
/- Matrices in memory: what a pointer to one tells, and what stays. -/
namespace Go.Proofs.Ytelgefkfflgbeaa.Mat
open Go Go.RowKit Go.Proofs.Ytelgefkfflgbeaa.Mem Go.Proofs.Ytelgefkfflgbeaa.Bits Go.Proofs.YtelgefkfflgbeaaW.PrintWords
set_option linter.unusedVariables false

/-- All are bytes. -/
def Bytes (xs : List Int) : Prop := ∀ x ∈ xs, 0 ≤ x ∧ x < 256
theorem Bytes.getD {xs : List Int} (h : Bytes xs) (i : Nat) : 0 ≤ xs.getD i 0 ∧ xs.getD i 0 < 256 := by
  rw [List.getD_eq_getElem?_getD]
  cases e : xs[i]? with
  | none => simp
  | some x => exact h x (List.mem_of_getElem? e)
theorem Bytes.set {xs : List Int} (h : Bytes xs) (i : Nat) (x : Int) (h0 : 0 ≤ x) (h1 : x < 256) : Bytes (xs.set i x) := by
  intro y hy
  rcases List.mem_or_eq_of_mem_set hy with h' | h'
  · exact h y h'
  · subst h'; exact ⟨h0, h1⟩
theorem Bytes.append {xs ys : List Int} (h : Bytes xs) (h' : Bytes ys) : Bytes (xs ++ ys) := by
  intro y hy
  rcases List.mem_append.1 hy with e | e
  · exact h y e
  · exact h' y e
theorem Bytes.take {xs : List Int} (h : Bytes xs) (n : Nat) : Bytes (xs.take n) := fun y hy => h y (List.mem_of_mem_take hy)
theorem Bytes.drop {xs : List Int} (h : Bytes xs) (n : Nat) : Bytes (xs.drop n) := fun y hy => h y (List.mem_of_mem_drop hy)
theorem Bytes.zeros (n : Nat) : Bytes (List.replicate n 0) := fun y hy => by have := List.eq_of_mem_replicate hy; omega

/-- The struct's block and the row's block of a matrix. -/
structure MatIn (w : World) (b s r c cap : Nat) (xs : List Int) : Prop where
  blk : Blk w b 56 #[.int .i64 r, .int .i64 c, .slice (some ⟨s, 0, none⟩) (r * c) cap]
  own : w.ownsRow 0 5 1 (.slice (some ⟨s, 0, none⟩) (r * c) cap) (r * c) (nums .u8 xs)
  r0 : 1 ≤ r
  r1 : r ≤ 64
  c0 : 1 ≤ c
  c1 : c ≤ 64
  byt : Bytes xs

section
variable {w w' : World} {b s r c cap : Nat} {xs : List Int}
theorem MatIn.len (h : MatIn w b s r c cap xs) : xs.length = r * c := by
  have := h.own.1
  simpa [nums] using this
theorem MatIn.rc (h : MatIn w b s r c cap xs) : r * c ≤ 4096 := Nat.le_trans (Nat.mul_le_mul h.r1 h.c1) (by decide)
theorem MatIn.pos (h : MatIn w b s r c cap xs) : 0 < r * c := Nat.mul_pos h.r0 h.c0
theorem MatIn.cells (h : MatIn w b s r c cap xs) : w.cell? ⟨b, 0, none⟩ = some (.int .i64 r) ∧ w.cell? ⟨b, 1, none⟩ = some (.int .i64 c) ∧ w.cell? ⟨b, 2, none⟩ = some (.slice (some ⟨s, 0, none⟩) (r * c : Nat) cap) :=
  ⟨(h.blk.cell 0).trans rfl, (h.blk.cell 1).trans rfl, (h.blk.cell 2).trans rfl⟩
theorem MatIn.elem (h : MatIn w b s r c cap xs) (n : Nat) (hn : n < r * c) : w.cell? ⟨s, n, none⟩ = some (.int .u8 (xs.getD n 0)) ∧ w.frozen? ⟨s, n, none⟩ = false := by
  have := own_at h.own (n : Int) (by omega) (by omega)
  simpa [rd] using this
theorem MatIn.reads (h : MatIn w b s r c cap xs) : ReadsInt w .u8 (some ⟨s, 0, none⟩) xs.length xs := by
  have := own_reads' h.own
  rw [h.len]; exact this
theorem MatIn.capLe (h : MatIn w b s r c cap xs) : r * c ≤ cap := by
  rcases h.own.2 with ⟨e, _⟩ | ⟨g, c', cur, e, _, _, hc, _⟩
  · cases e
  · cases e; exact hc
theorem MatIn.slt (h : MatIn w b s r c cap xs) : s < w.heap.size := own_lt h.own s rfl
theorem MatIn.ne (h : MatIn w b s r c cap xs) : b ≠ s := by
  intro e
  exact own_blk_ne h.own h.blk (by decide) (by simp [Value.ownBlock, e])
theorem MatIn.keep (h : MatIn w b s r c cap xs) (hb : w'.heap[b]? = w.heap[b]?) (hs : w'.heap[s]? = w.heap[s]?) : MatIn w' b s r c cap xs :=
  ⟨hb.trans h.blk, own_move h.own (fun k hk => by
    have e : s = k := by simpa [Value.ownBlock] using hk
    subst e; exact hs), h.r0, h.r1, h.c0, h.c1, h.byt⟩
theorem MatIn.below (h : MatIn w b s r c cap xs) (hb : Below w.heap.size w w') : MatIn w' b s r c cap xs :=
  h.keep (hb.block b h.blk.lt) (hb.block s h.slt)
theorem MatIn.drewN (h : MatIn w b s r c cap xs) (n : Nat) : MatIn (w.drewN n) b s r c cap xs := h.keep rfl rfl
theorem MatIn.alloc (h : MatIn w b s r c cap xs) (o : Obj) : MatIn (w.alloc o) b s r c cap xs := h.below ((Below.refl _ _).alloc (Nat.le_refl _) o)
theorem MatIn.far (h : MatIn w b s r c cap xs) {p : Addr} (hb : b ≠ p.block) (hs : s ≠ p.block) (u : Value) : MatIn (w.setCell p u) b s r c cap xs :=
  h.keep (Below.heap_setCell w p u b hb) (Below.heap_setCell w p u s hs)
theorem MatIn.store (h : MatIn w b s r c cap xs) (n : Nat) (x : Int) (h0 : 0 ≤ x) (h1 : x < 256) : MatIn (w.setCell ⟨s, n, none⟩ (.int .u8 x)) b s r c cap (xs.set n x) := by
  refine ⟨h.blk.far (p := ⟨s, n, none⟩) h.ne _, ?_, h.r0, h.r1, h.c0, h.c1, h.byt.set n x h0 h1⟩
  have := (own_store h.own (n : Int) x).1
  simpa using this
end
/-- A pointer to a matrix. -/
def IsMat (w : World) (v : Value) (r c : Nat) (xs : List Int) : Prop := ∃ b s cap, v = .pointer (some ⟨b, 0, none⟩) ∧ MatIn w b s r c cap xs
theorem IsMat.below {w w' : World} {v : Value} {r c : Nat} {xs : List Int} (h : IsMat w v r c xs) (hb : Below w.heap.size w w') : IsMat w' v r c xs := by
  obtain ⟨b, s, cap, e, h⟩ := h
  exact ⟨b, s, cap, e, h.below hb⟩
theorem IsMat.drewN {w : World} {v : Value} {r c : Nat} {xs : List Int} (h : IsMat w v r c xs) (n : Nat) : IsMat (w.drewN n) v r c xs := by
  obtain ⟨b, s, cap, e, h⟩ := h
  exact ⟨b, s, cap, e, h.drewN n⟩
theorem IsMat.ptr {w : World} {v : Value} {r c : Nat} {xs : List Int} (h : IsMat w v r c xs) : ∃ b, v = .pointer (some ⟨b, 0, none⟩) := by
  obtain ⟨b, s, cap, e, h⟩ := h
  exact ⟨b, e⟩
end Go.Proofs.Ytelgefkfflgbeaa.Mat
/- What the small methods of a matrix come to: Size, is, At, Row, Copy, Set, New. -/
namespace Go.Proofs.Ytelgefkfflgbeaa.Mat
open Go Go.RowKit Go.Proofs.Ytelgefkfflgbeaa.Mem Go.Proofs.Ytelgefkfflgbeaa.Bits Go.Proofs.YtelgefkfflgbeaaW.PrintWords
set_option linter.unusedVariables false

set_option maxRecDepth 100000 in
theorem size_nil (w : World) :
    Calls Try.prog 18 #[.pointer none] w fun e w' => e = .returned (.tuple #[.int .i64 0, .int .i64 0]) ∧ ∃ n, w' = w.drewN n := by
  go_enter Try.func18, Try.ntmps18
  go_wp2
  go_ret2
  exact ⟨rfl, 0, rfl⟩
set_option maxRecDepth 100000 in
theorem size_any (v : Value) (r c : Nat) (xs : List Int) (w : World) (h : IsMat w v r c xs) :
    Calls Try.prog 18 #[v] w fun e w' => e = .returned (.tuple #[.int .i64 r, .int .i64 c]) ∧ ∃ n, w' = w.drewN n := by
  obtain ⟨b, s, cap, rfl, h⟩ := h
  obtain ⟨h0, h1, _⟩ := h.cells
  clear h
  go_enter Try.func18, Try.ntmps18
  go_wp2
  go_quiet (fail)
  go_wp2
  go_ret2
  exact ⟨rfl, _, rfl⟩

/-- Is a place in? -/
def Within (r c : Nat) (i k : Int) : Prop := 0 ≤ i ∧ 0 ≤ k ∧ i < r ∧ k < c

set_option maxRecDepth 100000 in
theorem is_nil (i k : Int) (w : World) :
    Calls Try.prog 34 #[.pointer none, .int .i64 i, .int .i64 k] w fun e w' => e = .returned (.bool false) ∧ ∃ n, w' = w.drewN n := by
  go_enter Try.func34, Try.ntmps34
  go_wp2
  go_ret
  exact ⟨rfl, 0, rfl⟩

set_option maxRecDepth 100000 in
theorem is_in (v : Value) (r c : Nat) (xs : List Int) (i k : Int) (w : World) (h : IsMat w v r c xs) (hi : Within r c i k) :
    Calls Try.prog 34 #[v, .int .i64 i, .int .i64 k] w fun e w' => e = .returned (.bool true) ∧ ∃ n, w' = w.drewN n := by
  obtain ⟨b, s, cap, rfl, h⟩ := h
  obtain ⟨h0, h1, _⟩ := h.cells
  obtain ⟨i1, i2, i3, i4⟩ := hi
  clear h
  go_enter Try.func34, Try.ntmps34
  go_wp2
  go_ret
  exact ⟨rfl, 0, rfl⟩

set_option maxRecDepth 100000 in
theorem is_out (v : Value) (r c : Nat) (xs : List Int) (i k : Int) (w : World) (h : IsMat w v r c xs) (hi : ¬ Within r c i k) :
    Calls Try.prog 34 #[v, .int .i64 i, .int .i64 k] w fun e w' => e = .returned (.bool false) ∧ ∃ n, w' = w.drewN n := by
  obtain ⟨b, s, cap, rfl, h⟩ := h
  obtain ⟨h0, h1, _⟩ := h.cells
  clear h
  unfold Within at hi
  by_cases i1 : 0 ≤ i
  · by_cases i2 : 0 ≤ k
    · by_cases i3 : i < r
      · have i4 : ¬ k < c := by omega
        clear hi
        go_enter Try.func34, Try.ntmps34
        go_wp2
        go_ret
        exact ⟨rfl, 0, rfl⟩
      · clear hi
        go_enter Try.func34, Try.ntmps34
        go_wp2
        go_ret
        exact ⟨rfl, 0, rfl⟩
    · clear hi
      go_enter Try.func34, Try.ntmps34
      go_wp2
      go_ret
      exact ⟨rfl, 0, rfl⟩
  · clear hi
    go_enter Try.func34, Try.ntmps34
    go_wp2
    go_ret
    exact ⟨rfl, 0, rfl⟩

theorem idx_lt {r c i k : Nat} (hi : i < r) (hk : k < c) : i * c + k < r * c := by
  have : (i + 1) * c ≤ r * c := Nat.mul_le_mul_right c hi
  rw [Nat.add_mul] at this; omega

theorem new_any (r c : Int) (w : World) (h : ¬ (1 ≤ r ∧ 1 ≤ c ∧ r ≤ 64 ∧ c ≤ 64)) :
    Calls Try.prog 39 #[.int .i64 r, .int .i64 c] w fun e w' => e = .returned (.tuple #[.pointer none, .int .i64 1]) ∧ w = w' := by
  by_cases i1 : r < 1
  · clear h
    go_enter Try.func39, Try.ntmps39
    go_wp2
    go_ret2
    exact ⟨rfl, rfl⟩
  · by_cases i2 : c < 1
    · clear h
      go_enter Try.func39, Try.ntmps39
      go_wp2
      go_ret2
      exact ⟨rfl, rfl⟩
    · by_cases i3 : 64 < r
      · clear h
        go_enter Try.func39, Try.ntmps39
        go_wp2
        go_ret2
        exact ⟨rfl, rfl⟩
      · have i4 : 64 < c := by omega
        clear h
        go_enter Try.func39, Try.ntmps39
        go_wp2
        go_ret2
        exact ⟨rfl, rfl⟩

theorem mat_new {w : World} (r c : Nat) (i1 : 1 ≤ r) (i2 : 1 ≤ c) (i3 : r ≤ 64) (i4 : c ≤ 64) (b s : Nat) (xs : List Int) (hb : Blk w b 56 #[.int .i64 r, .int .i64 c, .slice (some ⟨s, 0, none⟩) (r * c) (r * c)])
    (ho : w.ownsRow 0 5 1 (.slice (some ⟨s, 0, none⟩) (r * c) (r * c)) (r * c) (nums .u8 xs)) (hy : Bytes xs) : MatIn w b s r c (r * c) xs := ⟨hb, ho, i1, i3, i2, i4, hy⟩

set_option maxRecDepth 100000 in
theorem new_good (r c : Nat) (w : World) (i1 : 1 ≤ r) (i2 : 1 ≤ c) (i3 : r ≤ 64) (i4 : c ≤ 64) :
    Calls Try.prog 39 #[.int .i64 r, .int .i64 c] w fun e w' => ∃ b s cap, e = .returned (.tuple #[.pointer (some ⟨b, 0, none⟩), .int .i64 0]) ∧ MatIn w' b s r c cap (List.replicate (r * c) 0) ∧ Below w.heap.size w w' ∧ w.heap.size ≤ b ∧ w.heap.size ≤ s := by
  have hrc : r * c ≤ 64 * 64 := Nat.mul_le_mul i3 i4
  have e1 : IntKind.i64.wrap ((r : Int) * (c : Int)) = ((r * c : Nat) : Int) := by
    rw [← Int.natCast_mul]; exact IntWalk.i64_in _ (by omega)
  have hM := fun w b s => @mat_new w r c i1 i2 i3 i4 b s (List.replicate (r * c) 0)
  obtain ⟨q, hq⟩ : ∃ q, q = r * c := ⟨_, rfl⟩
  rw [← hq] at hrc e1 hM ⊢
  have km := print_make (P := Try.prog) 22 5 .u8 1 Try.underlying22 info_u8 (by decide) q (by omega)
  have HO := Lib.hid (own_made w 0 5 .u8 q (by omega) (by omega))
  have HM := Lib.hid hM
  clear hq hM
  go_enter Try.func39, Try.ntmps39
  go_wp2
  clear km e1
  refine bodyPost_ret (v := .tuple #[.pointer (some ⟨w.heap.size + 1, 0, none⟩), .int .i64 0]) (by simp [results, Try.results39, go_sem]) rfl ⟨_, w.heap.size, q, rfl, HM.out _ _ _ ?_ ?_ (Bytes.zeros _), ?_, ?_, ?_⟩
  · have := Blk.new (w.alloc (.cells (madeCells #[.int .u8 0] q) 5)) 56 #[.int .i64 r, .int .i64 c, .slice (some ⟨w.heap.size, 0, none⟩) q q]
    simpa using this
  · have h := HO.out
    have hb : Below (w.alloc (.cells (madeCells #[.int .u8 0] q) 5)).heap.size (w.alloc (.cells (madeCells #[.int .u8 0] q) 5)) ((w.alloc (.cells (madeCells #[.int .u8 0] q) 5)).alloc (.cells #[.int .i64 r, .int .i64 c, .slice (some ⟨w.heap.size, 0, none⟩) q q] 56)) := (Below.refl _ _).alloc (Nat.le_refl _) _
    exact own_move h (fun k hk => hb.block k (own_lt h k hk))
  · exact ((Below.refl _ _).alloc (Nat.le_refl _) _).alloc (by simp) _
  · omega
  · omega
end Go.Proofs.Ytelgefkfflgbeaa.Mat
/- What Row, Copy and One of a matrix come to. -/
namespace Go.Proofs.Ytelgefkfflgbeaa.Mat
open Go Go.RowKit Go.Proofs.Ytelgefkfflgbeaa.Mem Go.Proofs.Ytelgefkfflgbeaa.Bits Go.Proofs.YtelgefkfflgbeaaW.PrintWords
set_option linter.unusedVariables false

theorem below_of_drewN {w w' : World} {n : Nat} (h : Below (w.drewN n).heap.size (w.drewN n) w') : Below w.heap.size w w' := ⟨h.os, h.tape, h.output, h.size, h.block⟩
/-- A row of a matrix whose elements are told one by one. -/
def rowOf (c : Nat) (xs : List Int) (i : Nat) : List Int := (xs.take ((i + 1) * c)).drop (i * c)
theorem rowOf_len {r c : Nat} {xs : List Int} (hl : xs.length = r * c) (i : Nat) (hi : i < r) : (rowOf c xs i).length = c := by
  have h : (i + 1) * c ≤ r * c := Nat.mul_le_mul_right c hi
  unfold rowOf
  rw [List.length_drop, List.length_take, hl, Nat.min_eq_left h, Nat.add_mul]
  omega
theorem info_u8' : ∃ i, Try.prog.info? 5 = some i ∧ i.size = 1 := by
  obtain ⟨i0, hi, hz⟩ := Option.map_eq_some_iff.1 info_u8
  simp only [Prod.mk.injEq] at hz
  exact ⟨i0, hi, hz.2.1⟩

/-- A cut of a row of bytes in the middle, not empty. -/
theorem mid_cut (s cap q : Nat) (xs : List Int) (lo hi : Nat) (hl : xs.length = q) (h1 : lo < hi) (h2 : hi ≤ q) (hc : q ≤ cap) :
    (∀ W : World, (Instr.slice 22 (.slice (some ⟨s, 0, none⟩) q cap) (some (.int .i64 (lo : Int))) (some (.int .i64 (hi : Int))) none).run Try.prog W = .ok (.slice (some ⟨s, lo, none⟩) (hi - lo) (cap - lo)) W) ∧
    ∀ w : World, ReadsInt w .u8 (some ⟨s, 0, none⟩) q xs → ReadsInt w .u8 (some ⟨s, lo, none⟩) ((xs.take hi).drop lo).length ((xs.take hi).drop lo) := by
  obtain ⟨i, hi', hsz⟩ := info_u8'
  subst hl
  have hlen : ((xs.take hi).drop lo).length = hi - lo := by rw [List.length_drop, List.length_take]; omega
  have ha : ∀ A : Option Addr, A = some ⟨s, 0, none⟩ → (if cap = lo then A else A.map (·.add lo)) = some ⟨s, lo, none⟩ := by
    rintro _ rfl
    rw [if_neg (by omega)]
    by_cases h0 : lo = 0
    · subst h0; rfl
    · simp [Addr.add, h0]
  constructor
  · intro W
    have hel : Try.prog.elem 22 = 5 := by simp [Program.elem, Try.underlying22]
    have hu : Try.prog.underlying 22 = some (.slice (Try.prog.elem 22)) := by rw [hel]; exact Try.underlying22
    rw [run_slice_lh W 22 (some ⟨s, 0, none⟩) xs.length cap hu .i64 .i64 lo hi (by omega) (by omega) (by omega), hel]
    have e : (if cap = lo then (some ⟨s, 0, none⟩ : Option Addr) else (some (⟨s, 0, none⟩ : Addr)).map (·.add lo)) = some ⟨s, lo, none⟩ := ha _ rfl
    simp [sizeOf, typeInfo, hi', hsz, sliced, Result.andThen] at e ⊢
    exact e
  · intro w h
    have h2' := (h.take_ hi (by omega)).drop_ (c := cap) lo (by omega) (by omega)
    rw [ha _ rfl] at h2'
    rw [hlen]
    exact h2'

set_option maxRecDepth 100000 in
theorem row_nil (i : Int) (w : World) :
    Calls Try.prog 19 #[.pointer none, .int .i64 i] w fun e w' => e = .returned (.slice none 0 0) ∧ ∃ n, w' = w.drewN n := by
  go_enter Try.func19, Try.ntmps19
  go_wp2_with (go_at_call 34; refine (is_nil _ _ _).mono ?_; rintro e w' ⟨rfl, n, rfl⟩)
  go_ret
  exact ⟨rfl, n, rfl⟩
set_option maxRecDepth 100000 in
theorem row_out (v : Value) (r c : Nat) (xs : List Int) (i : Int) (w : World) (h : IsMat w v r c xs) (hi : ¬ (0 ≤ i ∧ i < r)) :
    Calls Try.prog 19 #[v, .int .i64 i] w fun e w' => e = .returned (.slice none 0 0) ∧ ∃ n, w' = w.drewN n := by
  have ho : ¬ Within r c i 0 := fun h => hi ⟨h.1, h.2.2.1⟩
  clear hi
  go_enter Try.func19, Try.ntmps19
  go_wp2_with (go_at_call 34; refine (is_out _ _ _ _ _ _ _ h ho).mono ?_; rintro e w' ⟨rfl, n, rfl⟩)
  go_ret
  exact ⟨rfl, n, rfl⟩

set_option maxRecDepth 100000 in
theorem row_in (v : Value) (r c : Nat) (xs : List Int) (i : Nat) (w : World) (h : IsMat w v r c xs) (hi : i < r) :
    Calls Try.prog 19 #[v, .int .i64 i] w fun e w' => ∃ u, e = .returned u ∧ w'.ownsRow w.heap.size 5 1 u c (nums .u8 (rowOf c xs i)) ∧ Below w.heap.size w w' := by
  obtain ⟨b, s, cap, rfl, h⟩ := h
  have hM : IsMat w (.pointer (some ⟨b, 0, none⟩)) r c xs := ⟨b, s, cap, rfl, h⟩
  have ho : Within r c i 0 := ⟨by omega, by omega, by omega, by have := h.c0; omega⟩
  obtain ⟨h0, h1, h2⟩ := h.cells
  have hrc := h.rc
  have hlen := rowOf_len h.len i hi
  have hle : (i + 1) * c ≤ r * c := Nat.mul_le_mul_right c hi
  have hlt : i * c < (i + 1) * c := by rw [Nat.add_mul]; have := h.c0; omega
  obtain ⟨kc, hr⟩ := mid_cut s cap (r * c) xs (i * c) ((i + 1) * c) h.len hlt hle h.capLe
  have hR := hr w (by have := h.reads; rwa [h.len] at this)
  have e1 : IntKind.i64.wrap ((i : Int) * (c : Int)) = ((i * c : Nat) : Int) := by
    rw [← Int.natCast_mul]; exact IntWalk.i64_in _ (by omega)
  have e3 : IntKind.i64.wrap ((i : Int) + 1) = (i : Int) + 1 := IntWalk.i64_in _ (by have := h.r1; omega)
  have e2 : IntKind.i64.wrap (((i : Int) + 1) * (c : Int)) = (((i + 1) * c : Nat) : Int) := by
    rw [show ((i : Int) + 1) = ((i + 1 : Nat) : Int) by omega, ← Int.natCast_mul]; exact IntWalk.i64_in _ (by omega)
  have hd : (i + 1) * c - i * c = c := by rw [Nat.add_mul]; omega
  obtain ⟨q, hq⟩ : ∃ q, q = r * c := ⟨_, rfl⟩
  obtain ⟨p, hp⟩ : ∃ p, p = i * c := ⟨_, rfl⟩
  obtain ⟨p2, hp2⟩ : ∃ p, p = (i + 1) * c := ⟨_, rfl⟩
  change ReadsInt w .u8 _ (rowOf c xs i).length (rowOf c xs i) at hR
  obtain ⟨ys, hys⟩ : ∃ ys, ys = rowOf c xs i := ⟨_, rfl⟩
  rw [← hys] at hR hlen ⊢
  rw [← hq] at h2 hle hrc kc
  rw [← hp] at e1 hlt kc hd hR
  rw [← hp2] at e2 hlt hle kc hd
  rw [hd, ← hlen] at kc
  have HR := Lib.hid hR
  have HM := Lib.hid hM
  have HC := Lib.hid h.c1
  have HL := Lib.hid hlen
  clear hq hp hp2 h hM hr hd hys hR hlen
  go_enter Try.func19, Try.ntmps19
  go_wp2_with (go_at_call 34; refine (is_in _ _ _ _ _ _ _ HM.out ho).mono ?_; rintro e w' ⟨rfl, n, rfl⟩)
  clear ho HM
  refine wp_region_still_tail 18 (by kernel_rfl) (by kernel_rfl) ?_
  change wpStill _ _ (w.drewN (n + 1)) (fun a' => wpList _ _ _ _ a' (w.drewN (n + 1))) _ _
  simp only [List.take_succ_cons, List.take_zero, List.drop_succ_cons, List.drop_zero]
  repeat still_step
  refine wpStill_nil ?_
  go_wp2_with (go_at_call 35; refine (clone_any _ _ ys _ (ReadsInt.drewN HR.out _) (by rw [HL.out]; have := HC.out; omega)).mono ?_; rintro e w' ⟨u, rfl, hu, hB⟩; have HU := Lib.hid hu; have HB := Lib.hid hB; clear hu hB)
  go_ret
  exact ⟨_, rfl, by have := HU.out; rwa [HL.out] at this, below_of_drewN HB.out⟩

end Go.Proofs.Ytelgefkfflgbeaa.Mat
/- What One and Turned of a matrix come to. -/
namespace Go.Proofs.Ytelgefkfflgbeaa.Mat
open Go Go.RowKit Go.Proofs.Ytelgefkfflgbeaa.Mem Go.Proofs.Ytelgefkfflgbeaa.Bits Go.Proofs.YtelgefkfflgbeaaW.PrintWords
set_option linter.unusedVariables false

def oneTo (n : Nat) : Nat → List Int
  | 0 => List.replicate (n * n) 0
  | k + 1 => (oneTo n k).set (k * n + k) 1

set_option maxRecDepth 100000 in
theorem one_bad (n : Int) (w : World) (h : ¬ (1 ≤ n ∧ n ≤ 64)) :
    Calls Try.prog 22 #[.int .i64 n] w fun e w' => e = .returned (.tuple #[.pointer none, .int .i64 1]) ∧ w = w' := by
  have h' : ¬ (1 ≤ n ∧ 1 ≤ n ∧ n ≤ 64 ∧ n ≤ 64) := fun x => h ⟨x.1, x.2.2.1⟩
  have H := Lib.hid h'
  clear h h'
  go_enter Try.func22, Try.ntmps22
  go_wp2_with (go_at_call 39; refine (new_any _ _ _ H.out).mono ?_; rintro e w' ⟨rfl, rfl⟩)
  go_ret2
  exact ⟨rfl, rfl⟩

set_option maxRecDepth 100000 in
theorem one_good (n : Nat) (w : World) (i1 : 1 ≤ n) (i3 : n ≤ 64) :
    Calls Try.prog 22 #[.int .i64 n] w fun e w' => ∃ b s cap, e = .returned (.tuple #[.pointer (some ⟨b, 0, none⟩), .int .i64 0]) ∧ MatIn w' b s n n cap (oneTo n n) ∧ Below w.heap.size w w' ∧ w.heap.size ≤ b ∧ w.heap.size ≤ s := by
  go_enter Try.func22, Try.ntmps22
  go_wp2_with (go_at_call 39; refine (new_good n n _ i1 i1 i3 i3).mono ?_; rintro e w0 ⟨b, s, cap, rfl, hm, hB, hb1, hs1⟩; have HM := Lib.hid hm; have HB := Lib.hid hB; clear hm hB)
  go_loopw [6, 17] (fun _ i wr => ∃ (k : Nat), k ≤ n ∧ i = .int .i64 k ∧ Hid (MatIn wr b s n n cap (oneTo n k)) ∧ Hid (Below w.heap.size w wr)) (fun _ i _ => n - (intOf i).toNat)
  case atStart => exact ⟨0, by omega, rfl, HM, HB⟩
  case round =>
    obtain ⟨k, hk, rfl, HK, HW⟩ := hrel
    clear HM HB
    by_cases hlt : k < n
    · obtain ⟨c0, c1, c2⟩ := HK.out.cells
      have hb := idx_lt hlt hlt
      obtain ⟨hx, hf⟩ := HK.out.elem _ hb
      have hrc := HK.out.rc
      have e1 : IntKind.i64.wrap ((k : Int) * (n : Int)) = ((k * n : Nat) : Int) := by
        rw [← Int.natCast_mul]; exact IntWalk.i64_in _ (by omega)
      have HN := Lib.hid (HK.out.store (k * n + k) 1 (by omega) (by omega))
      have HV := Lib.hid (HW.out.setCell (p := ⟨s, k * n + k, none⟩) hs1 (.int .u8 1))
      change Hid (MatIn _ b s n n cap (oneTo n (k + 1))) at HN
      obtain ⟨q, hq⟩ : ∃ q, q = n * n := ⟨_, rfl⟩
      obtain ⟨p, hp⟩ : ∃ p, p = k * n := ⟨_, rfl⟩
      obtain ⟨y, hy⟩ : ∃ y, y = (oneTo n k).getD (k * n + k) 0 := ⟨_, rfl⟩
      rw [← hy] at hx
      rw [← hq] at c2 hb hrc
      rw [← hp] at hx hf e1 hb HN HV
      have a0 : (0 : Int) ≤ (p : Int) + (k : Int) := by omega
      have a1 : (p : Int) + (k : Int) < (q : Int) := by omega
      have a2 : ((p : Int) + (k : Int)).toNat = p + k := by omega
      have a3 : IntKind.i64.wrap ((p : Int) + (k : Int)) = (p : Int) + (k : Int) := IntWalk.i64_in _ (by omega)
      clear hq hp hy HK HW
      go_wp2
      go_roundw
      case rel => exact ⟨k + 1, by omega, by go_num, HN, HV⟩
      case measure => simp [intOf]; omega
    · obtain rfl : k = n := by omega
      go_wp2
      go_ret2
      exact ⟨b, s, cap, rfl, HK.out, HW.out, hb1, hs1⟩

/-- A matrix turned: k elements of row i, set into ys .. -/
def turnRow (r c : Nat) (xs : List Int) (i : Nat) : Nat → List Int → List Int
  | 0, ys => ys
  | k + 1, ys => (turnRow r c xs i k ys).set (k * r + i) (xs.getD (i * c + k) 0)
/-- .. and i rows. -/
def turnTo (r c : Nat) (xs : List Int) : Nat → List Int
  | 0 => List.replicate (r * c) 0
  | i + 1 => turnRow r c xs i c (turnTo r c xs i)

set_option maxRecDepth 100000 in
theorem turned_nil (w : World) :
    Calls Try.prog 37 #[.pointer none] w fun e w' => e = .returned (.pointer none) ∧ ∃ n, w' = w.drewN n := by
  go_enter Try.func37, Try.ntmps37
  go_wp2
  go_ret
  exact ⟨rfl, 0, rfl⟩

theorem mat_made (w : World) (r c q : Nat) (hq : q = r * c) (i1 : 1 ≤ r) (i2 : 1 ≤ c) (i3 : r ≤ 64) (i4 : c ≤ 64) :
    MatIn ((w.alloc (.cells (madeCells #[.int .u8 0] q) 5)).alloc (.cells #[.int .i64 r, .int .i64 c, .slice (some ⟨w.heap.size, 0, none⟩) q q] 56)) (w.heap.size + 1) w.heap.size r c q (List.replicate q 0) := by
  have hrc : r * c ≤ 64 * 64 := Nat.mul_le_mul i3 i4
  subst hq
  refine ⟨?_, ?_, i1, i3, i2, i4, Bytes.zeros _⟩
  · have := Blk.new (w.alloc (.cells (madeCells #[.int .u8 0] (r * c)) 5)) 56 #[.int .i64 r, .int .i64 c, .slice (some ⟨w.heap.size, 0, none⟩) (r * c) (r * c)]
    simpa using this
  · have h := own_made w 0 5 .u8 (r * c) (by omega) (by omega)
    exact own_move h (fun k hk => Below.heap_alloc _ _ k (own_lt h k hk))

theorem turnRow_len (r c : Nat) (xs : List Int) (i : Nat) (ys : List Int) : ∀ k, (turnRow r c xs i k ys).length = ys.length
  | 0 => rfl
  | k + 1 => by rw [turnRow, List.length_set, turnRow_len r c xs i ys k]

set_option maxRecDepth 100000 in
set_option maxHeartbeats 1000000 in
theorem turned_any (v : Value) (r c : Nat) (xs : List Int) (w : World) (h : IsMat w v r c xs) :
    Calls Try.prog 37 #[v] w fun e w' => ∃ b s cap, e = .returned (.pointer (some ⟨b, 0, none⟩)) ∧ MatIn w' b s c r cap (turnTo r c xs r) ∧ Below w.heap.size w w' ∧ w.heap.size ≤ b ∧ w.heap.size ≤ s := by
  obtain ⟨b, s, cap, rfl, h⟩ := h
  obtain ⟨h0, h1, h2⟩ := h.cells
  have H := Lib.hid h
  have hrc := h.rc
  obtain ⟨q, hq⟩ : ∃ q, q = r * c := ⟨_, rfl⟩
  have HMM := Lib.hid (mat_made w c r q (by rw [hq, Nat.mul_comm]) h.c0 h.r0 h.c1 h.r1)
  rw [← hq] at h2 hrc
  have km := print_make (P := Try.prog) 22 5 .u8 1 Try.underlying22 info_u8 (by decide) q (by omega)
  have HQ := Lib.hid hq
  have hr64 := h.r1
  have hc64 := h.c1
  clear h hq
  go_enter Try.func37, Try.ntmps37
  go_upto_region 3 with (fail)
  go_cut [3] (fun v3 wc => ∃ b2 s2, v3 = .pointer (some ⟨b2, 0, none⟩) ∧ Hid (MatIn wc b2 s2 c r q (turnTo r c xs 0)) ∧ Hid (Below w.heap.size w wc) ∧ w.heap.size ≤ b2 ∧ w.heap.size ≤ s2)
  case first =>
    go_region_held3 (fun W => W.cell? ⟨b, 0, none⟩ = some (.int .i64 r) ∧ W.cell? ⟨b, 1, none⟩ = some (.int .i64 c) ∧ W.cell? ⟨b, 2, none⟩ = some (.slice (some ⟨s, 0, none⟩) q cap)) (go_keep) (fail)
    all_goals
      go_wp2
      go_meet
      case rel => exact ⟨_, _, rfl, Lib.hid (by rw [turnTo, ← HQ.out]; exact HMM.out.drewN 1), Lib.hid (((((Below.refl _ _).alloc (Nat.le_refl _) _).alloc (by simp) _)).drew), by omega, by omega⟩
  case rest =>
    obtain ⟨b2, s2, rfl, HM, HB, hb2, hs2⟩ := hcut
    clear km HMM
    have g0 := (HB.out.cell (p := ⟨b, 0, none⟩) H.out.blk.lt).trans h0
    have g1 := (HB.out.cell (p := ⟨b, 1, none⟩) H.out.blk.lt).trans h1
    clear h0 h1 h2
    go_wp2
    go_loopw [4, 28] (fun _ i wr => ∃ (k : Nat), k ≤ r ∧ i = .int .i64 k ∧ Hid (MatIn wr b2 s2 c r q (turnTo r c xs k)) ∧ Hid (Below w.heap.size w wr)) (fun _ i _ => r - (intOf i).toNat)
    case atStart => exact ⟨0, by omega, rfl, HM, HB⟩
    case round =>
      obtain ⟨i, hi, rfl, HK, HW⟩ := hrel
      clear HM HB g0 g1
      by_cases hlt : i < r
      · have g1 := (HW.out.cell (p := ⟨b, 1, none⟩) H.out.blk.lt).trans H.out.cells.2.1
        go_wp2
        obtain ⟨wo, hwo⟩ : ∃ wo : World, wo = wr := ⟨_, rfl⟩
        go_loopw [5, 35] (fun _ j wr => ∃ (k : Nat), k ≤ c ∧ j = .int .i64 k ∧ Hid (MatIn wr b2 s2 c r q (turnRow r c xs i k (turnTo r c xs i))) ∧ Hid (Below w.heap.size w wr)) (fun _ j _ => c - (intOf j).toNat)
        case atStart => exact ⟨0, by omega, rfl, HK, HW⟩
        case round =>
          obtain ⟨k, hk, rfl, HK2, HW2⟩ := hrel
          clear HK HW g1
          by_cases hlk : k < c
          · have hM2 := H.out.keep (HW2.out.block b H.out.blk.lt) (HW2.out.block s H.out.slt)
            obtain ⟨m0, m1, m2⟩ := hM2.cells
            obtain ⟨o0, o1, o2⟩ := HK2.out.cells
            have hb1 := idx_lt hlt hlk
            have hb3 := idx_lt hlk hlt
            obtain ⟨mx, _⟩ := hM2.elem _ hb1
            obtain ⟨ox, of⟩ := HK2.out.elem _ hb3
            have hbx := hM2.byt.getD (i * c + k)
            have HN := Lib.hid ((HK2.out.drewN 1).store (k * r + i) (xs.getD (i * c + k) 0) hbx.1 hbx.2)
            have HV := Lib.hid ((pw_below_drewN HW2.out 1).setCell (p := ⟨s2, k * r + i, none⟩) hs2 (.int .u8 (xs.getD (i * c + k) 0)))
            change Hid (MatIn _ b2 s2 c r q (turnRow r c xs i (k + 1) (turnTo r c xs i))) at HN
            have hrc2 := HK2.out.rc
            have hrc1 := hM2.rc
            have e1 : IntKind.i64.wrap ((i : Int) * (c : Int)) = ((i * c : Nat) : Int) := by
              rw [← Int.natCast_mul]; exact IntWalk.i64_in _ (by omega)
            have e2 : IntKind.i64.wrap ((k : Int) * (r : Int)) = ((k * r : Nat) : Int) := by
              rw [← Int.natCast_mul]; exact IntWalk.i64_in _ (by omega)
            obtain ⟨q2, hq2⟩ : ∃ q, q = c * r := ⟨_, rfl⟩
            obtain ⟨q1, hq1⟩ : ∃ q, q = r * c := ⟨_, rfl⟩
            obtain ⟨p, hp⟩ : ∃ p, p = i * c := ⟨_, rfl⟩
            obtain ⟨p2, hp2⟩ : ∃ p, p = k * r := ⟨_, rfl⟩
            rw [← hq1] at m2 hb1
            rw [← hq2] at o2 hb3 hrc2
            rw [← hp] at mx e1 hb1 HN HV
            rw [← hp2] at ox of e2 hb3 HN HV
            obtain ⟨x, hx⟩ : ∃ x, x = xs.getD (p + k) 0 := ⟨_, rfl⟩
            rw [← hx] at mx HN HV
            obtain ⟨y, hy⟩ : ∃ y, y = (turnRow r c xs i k (turnTo r c xs i)).getD (p2 + i) 0 := ⟨_, rfl⟩
            rw [← hy] at ox
            have hq12 : q1 = q := by rw [hq1, HQ.out]
            rw [hq12] at m2 hb1
            have a0 : (0 : Int) ≤ (p : Int) + (k : Int) := by omega
            have a1 : (p : Int) + (k : Int) < (q : Int) := by omega
            have a2 : ((p : Int) + (k : Int)).toNat = p + k := by omega
            have a3 : IntKind.i64.wrap ((p : Int) + (k : Int)) = (p : Int) + (k : Int) := IntWalk.i64_in _ (by omega)
            have d0 : (0 : Int) ≤ (p2 : Int) + (i : Int) := by omega
            have d1 : (p2 : Int) + (i : Int) < (q2 : Int) := by omega
            have d2 : ((p2 : Int) + (i : Int)).toNat = p2 + i := by omega
            have d3 : IntKind.i64.wrap ((p2 : Int) + (i : Int)) = (p2 : Int) + (i : Int) := IntWalk.i64_in _ (by omega)
            clear hq1 hq2 hp hp2 hx hy HK2 HW2 hM2 hbx hq12 hwo
            go_wp2
            refine wp_region_still_tail 27 (by kernel_rfl) (by kernel_rfl) ?_
            change wpStill _ _ (wr.drewN 1) (fun a' => wpList _ _ _ _ a' (wr.drewN 1)) _ _
            simp only [List.take_succ_cons, List.take_zero, List.drop_succ_cons, List.drop_zero]
            repeat still_step
            refine wpStill_nil ?_
            go_wp2
            go_roundw
            case rel => exact ⟨k + 1, by omega, by go_num, HN, HV⟩
            case measure => simp [intOf]; omega
          · obtain rfl : k = c := by omega
            go_wp2
            go_roundw
            case rel => exact ⟨i + 1, by omega, by go_num, HK2, HW2⟩
            case measure => simp [intOf]; omega
      · obtain rfl : i = r := by omega
        go_wp2
        go_ret
        exact ⟨b2, s2, q, rfl, HK.out, HW.out, hb2, hs2⟩
end Go.Proofs.Ytelgefkfflgbeaa.Mat
/- What Of comes to: rows made a matrix, or that they are none. -/
namespace Go.Proofs.Ytelgefkfflgbeaa.Mat
open Go Go.RowKit Go.Proofs.Ytelgefkfflgbeaa.Mem Go.Proofs.Ytelgefkfflgbeaa.Bits Go.Proofs.YtelgefkfflgbeaaW.PrintWords
set_option linter.unusedVariables false

/-- Rows of bytes in memory. -/
abbrev RowsC (w : World) (A : Option Addr) (ls : List (List Int)) : Prop := Kd.C (Kd.slice 5 (Kd.int .u8)) w A ls.length ls
theorem RowsC.get {w : World} {A : Option Addr} {ls : List (List Int)} (h : RowsC w A ls) (i : Nat) (hi : i < ls.length) :
    ∃ ad A0 c0, A = some ad ∧ w.cell? (ad.add i) = some (.slice A0 (ls.getD i []).length c0) ∧ (ls.getD i []).length ≤ c0 ∧ (Kd.int .u8).C w A0 (ls.getD i []).length (ls.getD i []) := by
  obtain ⟨ad, c, e, _, hK, hc0⟩ := Kd.C_get h [] (i : Int) (by omega) (by omega)
  obtain ⟨A0, c0, rfl, l0, g0⟩ := hK
  refine ⟨ad, A0, c0, e, ?_, l0, g0⟩
  have hq := hc0 0 _ rfl
  simpa [Kd.slice] using hq
theorem RowsC.get0 {w : World} {A : Option Addr} {ls : List (List Int)} (h : RowsC w A ls) (hi : 0 < ls.length) :
    ∃ ad A0 c0, A = some ad ∧ w.cell? ad = some (.slice A0 (ls.getD 0 []).length c0) ∧ (ls.getD 0 []).length ≤ c0 ∧ (Kd.int .u8).C w A0 (ls.getD 0 []).length (ls.getD 0 []) := by
  obtain ⟨ad, A0, c0, e, hc, r⟩ := h.get 0 hi
  exact ⟨ad, A0, c0, e, by simpa [Addr.add] using hc, r⟩
/-- All rows, one behind the other. -/
def flat (ls : List (List Int)) : List Int := ls.flatten
def AllBytes (ls : List (List Int)) : Prop := ∀ l ∈ ls, Bytes l

theorem MatIn.copy {w : World} {b s r c cap : Nat} {xs ys : List Int} (h : MatIn w b s r c cap xs) (off : Nat) (hoff : off + ys.length ≤ r * c) (hy : Bytes ys) :
    ∃ cur : Array Value, w.heap[s]? = some (.cells cur 5 (0, 0)) ∧ off + (nums .u8 ys).length ≤ cur.size ∧
      MatIn (w.setRow s (cur.toList.take off ++ (nums .u8 ys ++ cur.toList.drop (off + (nums .u8 ys).length))).toArray) b s r c cap (xs.take off ++ ys ++ xs.drop (off + ys.length)) := by
  have hlen := h.len
  have ho := h.own
  obtain ⟨hl, ⟨e, _⟩ | ⟨g, c', cur, e, hg, hh, hnc, hcm, hcs, ht⟩⟩ := ho
  · cases e
  · cases e
    have hsz : r * c ≤ cur.toList.length := by simp; omega
    have hyl : (nums .u8 ys).length = ys.length := by simp [nums]
    refine ⟨cur, hh, by rw [hyl]; omega, ?_⟩
    refine ⟨(setRow_other w s b _ h.ne).trans h.blk, ⟨?_, .inr ⟨s, cap, _, rfl, Nat.zero_le _, setRow_heap w s cur _ _ _ hh, hnc, hcm, ?_, ?_⟩⟩, h.r0, h.r1, h.c0, h.c1, ((h.byt.take _).append hy).append (h.byt.drop _)⟩
    · simp [nums]; omega
    · simp [nums]; omega
    · have e1 : cur.toList.take off = nums .u8 (xs.take off) := by
        have : (cur.toList.take (r * c)).take off = cur.toList.take off := by rw [List.take_take]; congr 1; omega
        rw [← this]
        rw [Nat.mul_one] at ht
        rw [ht]; simp [nums, List.map_take]
      have e2 : (cur.toList.drop (off + ys.length)).take (r * c - (off + ys.length)) = nums .u8 (xs.drop (off + ys.length)) := by
        rw [← List.drop_take]
        rw [Nat.mul_one] at ht
        rw [ht]; simp [nums, List.map_drop]
      rw [Nat.mul_one, nums_append, nums_append, hyl, e1, ← e2]
      simp only
      rw [← List.append_assoc, List.take_append, List.take_of_length_le (by simp [nums]; omega)]
      congr 2
      simp [nums]; omega

theorem take_flat (c : Nat) (ls : List (List Int)) (h : ∀ l ∈ ls, l.length = c) : ∀ k, k ≤ ls.length → (flat (ls.take k)).length = k * c := by
  intro k hk
  induction k with
  | zero => simp [flat]
  | succ k ih =>
    rw [List.take_succ_eq_append_getElem (by omega), flat, List.flatten_append]
    simp only [List.flatten_singleton, List.length_append]
    have := ih (by omega)
    unfold flat at this
    rw [this, h _ (List.getElem_mem _), Nat.add_mul, Nat.one_mul]
/-- The elements behind k rows, the rest nought. -/
def ofTo (c : Nat) (ls : List (List Int)) (k : Nat) : List Int := flat (ls.take k) ++ List.replicate (ls.length * c - k * c) 0
theorem ofTo_zero (c : Nat) (ls : List (List Int)) : ofTo c ls 0 = List.replicate (ls.length * c) 0 := by simp [ofTo, flat]
theorem ofTo_full (c : Nat) (ls : List (List Int)) : ofTo c ls ls.length = flat ls := by simp [ofTo]
theorem ofTo_step (c : Nat) (ls : List (List Int)) (k : Nat) (h : ∀ l ∈ ls.take (k + 1), l.length = c) (hk : k < ls.length) :
    (ofTo c ls k).take (k * c) ++ ls.getD k [] ++ (ofTo c ls k).drop (k * c + (ls.getD k []).length) = ofTo c ls (k + 1) := by
  have e : ls.getD k [] = ls[k] := by rw [List.getD_eq_getElem?_getD, List.getElem?_eq_getElem hk]; rfl
  have hm : ls[k] ∈ ls.take (k + 1) := by
    rw [List.take_succ_eq_append_getElem hk]; exact List.mem_append_right _ (List.mem_singleton.2 rfl)
  have hlk : (ls.getD k []).length = c := by rw [e]; exact h _ hm
  have hl : (flat (ls.take k)).length = k * c := by
    have := take_flat c (ls.take (k + 1)) h k (by simp; omega)
    rwa [List.take_take, Nat.min_eq_left (by omega)] at this
  have hle : (k + 1) * c ≤ ls.length * c := Nat.mul_le_mul_right c hk
  unfold ofTo
  rw [hlk, List.take_append_of_le_length (by omega), List.take_of_length_le (by omega), List.drop_append, List.drop_of_length_le (by omega), List.nil_append, hl, List.take_succ_eq_append_getElem hk, e]
  have : flat (ls.take k ++ [ls[k]]) = flat (ls.take k) ++ ls[k] := by unfold flat; rw [List.flatten_append, List.flatten_singleton]
  rw [this]
  congr 1
  rw [List.drop_replicate]
  congr 1
  rw [Nat.add_mul] at *; omega

set_option maxRecDepth 100000 in
theorem of_none (A : Option Addr) (c0 : Nat) (w : World) :
    Calls Try.prog 33 #[.slice A 0 c0] w fun e w' => e = .returned (.tuple #[.pointer none, .int .i64 1]) ∧ w = w' := by
  go_enter Try.func33, Try.ntmps33
  go_wp2
  go_ret2
  exact ⟨rfl, rfl⟩

set_option maxRecDepth 100000 in
theorem of_wide (A : Option Addr) (c0 : Nat) (ls : List (List Int)) (w : World) (h : RowsC w A ls) (hl : ls.length ≤ c0) (h0 : 0 < ls.length) (hm : ls.length ≤ 9223372036854775807)
    (hb : ¬ (ls.length ≤ 64 ∧ 1 ≤ (ls.getD 0 []).length ∧ (ls.getD 0 []).length ≤ 64)) :
    Calls Try.prog 33 #[.slice A ls.length c0] w fun e w' => e = .returned (.tuple #[.pointer none, .int .i64 1]) ∧ Below w.heap.size w w' := by
  obtain ⟨ad, A0, k0, rfl, hc, hk, hC⟩ := h.get0 h0
  obtain ⟨n, hn⟩ : ∃ n, n = ls.length := ⟨_, rfl⟩
  obtain ⟨c, hcc⟩ := show ∃ c, c = (ls.getD 0 []).length from ⟨_, rfl⟩
  rw [← hn] at h0 hm hb hl ⊢
  rw [← hcc] at hc hk hb
  have H := Lib.hid (show ¬ (1 ≤ (n : Int) ∧ 1 ≤ (c : Int) ∧ (n : Int) ≤ 64 ∧ (c : Int) ≤ 64) by omega)
  have hz : ((n : Int) == 0) = false := by simp; omega
  have hp : (0 : Int) < (n : Int) := by omega
  clear h hC hn hcc hb
  go_enter Try.func33, Try.ntmps33
  go_wp2_with (go_at_call 39; refine (new_any _ _ _ H.out).mono ?_; rintro e w' ⟨rfl, rfl⟩)
  go_ret2
  exact ⟨rfl, Below.refl _ _⟩

/-- A cut of a row of bytes from some place on, not empty. -/
theorem low_cut (s cap q lo : Nat) (h1 : lo < q) (hc : q ≤ cap) :
    ∀ W : World, (Instr.slice 22 (.slice (some ⟨s, 0, none⟩) q cap) (some (.int .i64 (lo : Int))) none none).run Try.prog W = .ok (.slice (some ⟨s, lo, none⟩) (q - lo) (cap - lo)) W := by
  obtain ⟨i, hi', hsz⟩ := info_u8'
  intro W
  have hel : Try.prog.elem 22 = 5 := by simp [Program.elem, Try.underlying22]
  have hu : Try.prog.underlying 22 = some (.slice (Try.prog.elem 22)) := by rw [hel]; exact Try.underlying22
  rw [run_slice_l W 22 (some ⟨s, 0, none⟩) q cap hu .i64 lo (by omega) (by omega), hel]
  have e : (if cap = lo then (some ⟨s, 0, none⟩ : Option Addr) else (some (⟨s, 0, none⟩ : Addr)).map (·.add lo)) = some ⟨s, lo, none⟩ := by
    rw [if_neg (by omega)]
    by_cases h0 : lo = 0
    · subst h0; rfl
    · simp [Addr.add, h0]
  simp [sizeOf, typeInfo, hi', hsz, sliced, Result.andThen] at e ⊢
  exact e
theorem size_u8 : (Try.prog.info? 5).map (·.size) = some 1 := by kernel_rfl
theorem nums_one (xs : List Int) : ∀ v ∈ nums .u8 xs, v.oneCell' = true := by
  intro v hv
  obtain ⟨x, _, rfl⟩ := List.mem_map.1 hv
  rfl
/-- The first k rows are as long as the first one. -/
def EvenTo (c : Nat) (ls : List (List Int)) (k : Nat) : Prop := ∀ l ∈ ls.take k, l.length = c
theorem EvenTo.step {c : Nat} {ls : List (List Int)} {k : Nat} (h : EvenTo c ls k) (hk : k < ls.length) (hc : (ls.getD k []).length = c) : EvenTo c ls (k + 1) := by
  intro l hl
  rw [List.take_succ_eq_append_getElem hk] at hl
  rcases List.mem_append.1 hl with e | e
  · exact h l e
  · rw [List.mem_singleton.1 e]
    rw [List.getD_eq_getElem?_getD, List.getElem?_eq_getElem hk] at hc
    exact hc
theorem bytes_getD {ls : List (List Int)} (h : AllBytes ls) (k : Nat) : Bytes (ls.getD k []) := by
  rw [List.getD_eq_getElem?_getD]
  cases e : ls[k]? with
  | none => intro x hx; cases hx
  | some l => exact h l (List.mem_of_getElem? e)
/-- What Of tells of rows. -/
def OfPost (ls : List (List Int)) (c : Nat) (w : World) (e : Ending) (w' : World) : Prop :=
  (EvenTo c ls ls.length ∧ ∃ b s cap, e = .returned (.tuple #[.pointer (some ⟨b, 0, none⟩), .int .i64 0]) ∧ MatIn w' b s ls.length c cap (flat ls) ∧ Below w.heap.size w w' ∧ w.heap.size ≤ b ∧ w.heap.size ≤ s) ∨
  (¬ EvenTo c ls ls.length ∧ e = .returned (.tuple #[.pointer none, .int .i64 1]) ∧ Below w.heap.size w w')

set_option maxRecDepth 100000 in
set_option maxHeartbeats 1000000 in
theorem of_any (A : Option Addr) (c0 : Nat) (ls : List (List Int)) (w : World) (h : RowsC w A ls) (hby : AllBytes ls) (hl : ls.length ≤ c0) (h0 : 1 ≤ ls.length) (h1 : ls.length ≤ 64)
    (h2 : 1 ≤ (ls.getD 0 []).length) (h3 : (ls.getD 0 []).length ≤ 64) :
    Calls Try.prog 33 #[.slice A ls.length c0] w (OfPost ls (ls.getD 0 []).length w) := by
  obtain ⟨ad, A0, k0, rfl, hc, hk, hC⟩ := h.get0 (by omega)
  have HR := Lib.hid h
  obtain ⟨n, hn⟩ : ∃ n, n = ls.length := ⟨_, rfl⟩
  obtain ⟨c, hcc⟩ := show ∃ c, c = (ls.getD 0 []).length from ⟨_, rfl⟩
  have HN := Lib.hid hn
  have HCC := Lib.hid hcc
  rw [← hn] at h0 h1 hl ⊢
  rw [← hcc] at hc hk h2 h3 ⊢
  have hz : ((n : Int) == 0) = false := by simp; omega
  have hp : (0 : Int) < (n : Int) := by omega
  clear h hC hn hcc
  go_enter Try.func33, Try.ntmps33
  go_wp2_with (go_at_call 39; refine (new_good n c _ h0 h2 h1 h3).mono ?_; rintro e w0 ⟨b, s, cap, rfl, hm, hB, hb1, hs1⟩; have HM := Lib.hid hm; have HB := Lib.hid hB; clear hm hB)
  clear hc hk
  go_loopw [6, 7, 26] (fun _ _ i wr => ∃ (k : Nat), k ≤ n ∧ i = .int .i64 k ∧ Hid (EvenTo c ls k) ∧ Hid (MatIn wr b s n c cap (ofTo c ls k)) ∧ Hid (Below w.heap.size w wr)) (fun _ _ i _ => n - (intOf i).toNat)
  case atStart => exact ⟨0, by omega, rfl, Lib.hid (fun l hl => by simp at hl), Lib.hid (by rw [ofTo_zero, ← HN.out]; exact HM.out), HB⟩
  case round =>
    obtain ⟨k, hk, rfl, HE, HK, HW⟩ := hrel
    clear HM HB
    by_cases hlt : k < n
    · obtain ⟨ad', A1, c1, ea, hcr, hkc, hCr⟩ := HR.out.get k (by rw [← HN.out]; exact hlt)
      cases ea
      replace hcr := (HW.out.cell (World.block_lt_of_cell? w _ hcr)).trans hcr
      obtain ⟨m0, m1, m2⟩ := HK.out.cells
      obtain ⟨m, hm⟩ : ∃ m, m = (ls.getD k []).length := ⟨_, rfl⟩
      rw [← hm] at hcr hkc
      have p0 : (0 : Int) ≤ (k : Int) := by omega
      have p1 : (k : Int) < (n : Int) := by omega
      by_cases hmc : m = c
      · subst hmc
        have hnb : ((m : Int) != (m : Int)) = false := by simp
        obtain ⟨ys, hys⟩ : ∃ ys, ys = ls.getD k [] := ⟨_, rfl⟩
        rw [← hys] at hm hCr
        have hrc := HK.out.rc
        have hoff : k * m + ys.length ≤ n * m := by
          have : (k + 1) * m ≤ n * m := Nat.mul_le_mul_right m hlt
          rw [Nat.add_mul] at this; omega
        have hcapl := HK.out.capLe
        obtain ⟨cur, hcur, hfit, hnew⟩ := (HK.out.drewN 1).copy (k * m) hoff (by rw [hys]; exact bytes_getD hby k)
        have HEn : EvenTo m ls (k + 1) := HE.out.step (by rw [← HN.out]; exact hlt) (by rw [← hys]; exact hm.symm)
        rw [hys, ofTo_step m ls k HEn (by rw [← HN.out]; exact hlt), ← hys] at hnew
        have e1 : IntKind.i64.wrap ((k : Int) * (m : Int)) = ((k * m : Nat) : Int) := by
          rw [← Int.natCast_mul]; exact IntWalk.i64_in _ (by omega)
        have kl := low_cut s cap (n * m) (k * m) (by omega) hcapl
        have HW' := Lib.hid (below_setRow (pw_below_drewN HW.out 1) hs1 ((cur.toList.take (k * m) ++ (nums .u8 ys ++ cur.toList.drop (k * m + (nums .u8 ys).length))).toArray))
        have HNw := Lib.hid hnew
        have HEn := Lib.hid HEn
        have hA1 : ∃ a1, A1 = some a1 := by
          obtain ⟨a1, e, _⟩ := Kd.at_int hCr 0 (by omega) (by omega)
          exact ⟨a1, e⟩
        obtain ⟨a1, rfl⟩ := hA1
        have hsrc : ∀ j v, (nums .u8 ys)[j]? = some v → (wr.drewN 1).cell? (a1.add j) = some v := by
          intro j v hj
          have hjl : j < ys.length := by
            have := (List.getElem?_eq_some_iff.1 hj).1
            simpa [nums] using this
          obtain ⟨a2, e, hcell⟩ := Kd.at_int hCr (j : Int) (by omega) (by omega)
          cases e
          have hcell' := (HW.out.cell (World.block_lt_of_cell? w _ hcell)).trans hcell
          simp [nums, rd, hjl] at hj hcell'
          rw [← hj]
          exact hcell'
        have HS := Lib.hid hsrc
        have HCu := Lib.hid hcur
        have HF := Lib.hid hfit
        have hmin : (nums .u8 ys).length = Nat.min m (n * m - k * m) := by
          show _ = min _ _
          rw [Nat.min_eq_left (by omega)]
          simp [nums]; omega
        have HMin := Lib.hid hmin
        obtain ⟨q, hq⟩ : ∃ q, q = n * m := ⟨_, rfl⟩
        obtain ⟨p, hp⟩ : ∃ p, p = k * m := ⟨_, rfl⟩
        rw [← hq] at m2 kl HMin
        rw [← hp] at e1 kl HMin HW' HNw HF
        clear hq hp HE HK HW hsrc hcur hfit hmin hnew hys hm hCr hoff hrc hcapl hkc HCC
        go_wp2
        refine wp_region_still_tail 12 (by kernel_rfl) (by kernel_rfl) ?_
        change wpStill _ _ (wr.drewN 1) (fun a' => wpList _ _ _ _ a' (wr.drewN 1)) _ _
        simp only [List.take_succ_cons, List.take_zero, List.drop_succ_cons, List.drop_zero]
        repeat still_step
        refine wpStill_nil ?_
        refine wpList_copy_own rfl _ _ _ _ rfl 5 Try.underlying22 size_u8 s p (q - p) (cap - p) a1 m c1 rfl rfl cur _ HCu.out (nums .u8 ys) HMin.out HS.out HF.out (nums_one ys) ?_
        go_wp2
        go_roundw
        case rel => exact ⟨k + 1, by omega, by go_num, HEn, HNw, HW'⟩
        case measure => simp [intOf]; omega
      · have hnb : ((m : Int) != (c : Int)) = true := by simp; omega
        have HMM := Lib.hid hm
        have HMC := Lib.hid hmc
        clear hmc hm
        go_wp2
        go_ret2
        refine .inr ⟨fun hE => HMC.out ?_, rfl, HW.out⟩
        rw [HMM.out]
        have hkl : k < ls.length := by rw [← HN.out]; exact hlt
        rw [List.getD_eq_getElem?_getD, List.getElem?_eq_getElem hkl]
        exact hE _ (by rw [List.take_length]; exact List.getElem_mem _)
    · obtain rfl : k = n := by omega
      go_wp2
      go_ret2
      refine .inl ⟨by have := HE.out; rwa [HN.out] at this, b, s, cap, rfl, ?_, HW.out, hb1, hs1⟩
      have := HK.out
      rw [HN.out, ofTo_full] at this
      exact this
end Go.Proofs.Ytelgefkfflgbeaa.Mat
/- What gf.Mul and slices.Equal come to, walked by hand. -/
namespace Go.Proofs.Ytelgefkfflgbeaa.Mat
open Go Go.RowKit Go.Proofs.Ytelgefkfflgbeaa.Bits Go.Proofs.Ytelgefkfflgbeaa.Gf Go.Proofs.YtelgefkfflgbeaaW.PrintWords
set_option linter.unusedVariables false

theorem xt_is (x : Nat) (h : x < 256) : (if 255 < x * 2 then x * 2 ^^^ 285 else x * 2) = xt x := by
  have e : ∀ x, x < 256 → (if 255 < x * 2 then x * 2 ^^^ 285 else x * 2) = xt x := by decide +kernel
  exact e x h
theorem xor_lt {a b : Nat} (ha : a < 256) (hb : b < 256) : a ^^^ b < 256 := by
  have : a ^^^ b < 2 ^ 8 := Nat.xor_lt_two_pow ha hb
  simpa using this

/-- What the loop holds. -/
def MulInv (r : Nat) (n b p x : Nat) : Prop := n ≤ 8 ∧ b < 2 ^ n ∧ p < 256 ∧ x < 256 ∧ gmA n b p x = r
theorem mulInv_bounds {r n b p x : Nat} (h : MulInv r n b p x) : b < 256 ∧ p < 256 ∧ x < 256 := by
  refine ⟨Nat.lt_of_lt_of_le h.2.1 ?_, h.2.2.1, h.2.2.2.1⟩
  have := Nat.pow_le_pow_right (n := 2) (by decide) h.1
  simpa using this
theorem mulInv_step {r n b p x : Nat} (h : MulInv r n b p x) (hb : 0 < b) : ∃ m, MulInv r m (b / 2) (p ^^^ b % 2 * x) (xt x) := by
  obtain ⟨h1, h2, h3, h4, h5⟩ := h
  cases n with
  | zero => simp at h2; omega
  | succ m =>
    refine ⟨m, by omega, by rw [Nat.pow_succ] at h2; omega, ?_, xt_lt x, h5⟩
    refine xor_lt h3 ?_
    rcases bit01 b with e | e <;> rw [e] <;> omega
theorem mulInv_end {r n p x : Nat} (h : MulInv r n 0 p x) : p = r := by
  have := h.2.2.2.2
  rwa [gmA_zero] at this

set_option maxRecDepth 100000 in
theorem mul_walk (a b0 : Nat) (w : World) (ha : a < 256) (hb0 : b0 < 256) :
    Calls Try.prog 27 #[.int .u8 a, .int .u8 b0] w fun e w' => e = .returned (.int .u8 (gm a b0 : Nat)) ∧ ∃ n, w' = w.drewN n := by
  have hI := Lib.hid (show MulInv (gm a b0) 8 b0 0 a from ⟨Nat.le_refl _, by simpa using hb0, by decide, ha, rfl⟩)
  have hr := gm_lt a b0 ha
  have ea : IntKind.i64.wrap (a : Int) = (a : Int) := IntWalk.i64_in _ (by omega)
  obtain ⟨r, hrr⟩ : ∃ r, r = gm a b0 := ⟨_, rfl⟩
  rw [← hrr] at hI hr ⊢
  clear hrr
  go_enter Try.func27, Try.ntmps27
  go_wp2
  go_loopw [1, 5, 6] (fun vb vp vx wr => ∃ (n b p x : Nat), vb = .int .u8 b ∧ vp = .int .i64 p ∧ vx = .int .i64 x ∧ Hid (MulInv r n b p x) ∧ Hid (∃ m, wr = w.drewN m)) (fun vb _ _ _ => (intOf vb).toNat)
  case atStart => exact ⟨8, b0, 0, a, rfl, rfl, rfl, hI, Lib.hid ⟨0, rfl⟩⟩
  case round =>
    obtain ⟨n, b, p, x, rfl, rfl, rfl, hJ, hW⟩ := hrel
    obtain ⟨m, hm⟩ := hW.out
    subst hm
    clear hI
    obtain ⟨hb, hp, hx⟩ := mulInv_bounds hJ.out
    by_cases h0 : 0 < b
    · obtain ⟨n', hN⟩ := mulInv_step hJ.out h0
      have hxt := xt_is x hx
      have c3 : decide ((0 : Int) < (b : Int)) = true := by simp; omega
      have eb : bits .and .u8 (b : Int) 1 = ((b % 2 : Nat) : Int) := and1_u8 b hb
      have ex : bits .xor .i64 (p : Int) (x : Int) = ((p ^^^ x : Nat) : Int) := xor_i64 p x (by omega) (by omega)
      have e2 : bits .xor .i64 ((x : Int) * 2) 285 = ((x * 2 ^^^ 285 : Nat) : Int) := by
        have := xor_i64 (x * 2) 285 (by omega) (by omega)
        rwa [show ((x * 2 : Nat) : Int) = (x : Int) * 2 by omega] at this
      have ed : (b : Int) / 2 = ((b / 2 : Nat) : Int) := by omega
      have HD := Lib.hid ed
      have HN := Lib.hid hN
      have hlt : b / 2 < b := by omega
      have HB2 := Lib.hid (show b / 2 < b by omega)
      have HX := Lib.hid hxt
      have HE2 := Lib.hid e2
      have HEX := Lib.hid ex
      clear hN ed hlt hxt e2 ex
      rcases bit01 b with hbit | hbit
      · have q1 : (bits .and .u8 (b : Int) 1 == 1) = false := by rw [eb, hbit]; rfl
        have Hbit := Lib.hid hbit
        clear eb hbit
        by_cases h5 : 255 < x * 2
        · have q2 : decide ((255 : Int) < (x : Int) * 2) = true := by simp; omega
          go_wp2
          go_roundw
          case rel => exact ⟨n', b / 2, p, xt x, by rw [← HD.out], rfl, by have := HX.out; rw [if_pos h5] at this; rw [HE2.out, this], by have := HN.out; rw [Hbit.out, Nat.zero_mul, Nat.xor_zero] at this; exact Lib.hid this, Lib.hid ⟨_, rfl⟩⟩
          case measure => have := HB2.out; simp [intOf]; omega
        · have q2 : decide ((255 : Int) < (x : Int) * 2) = false := by simp; omega
          go_wp2
          go_roundw
          case rel => exact ⟨n', b / 2, p, xt x, by rw [← HD.out], rfl, by have := HX.out; rw [if_neg h5] at this; rw [← this]; congr 1, by have := HN.out; rw [Hbit.out, Nat.zero_mul, Nat.xor_zero] at this; exact Lib.hid this, Lib.hid ⟨_, rfl⟩⟩
          case measure => have := HB2.out; simp [intOf]; omega
      · have q1 : (bits .and .u8 (b : Int) 1 == 1) = true := by rw [eb, hbit]; rfl
        have Hbit := Lib.hid hbit
        clear eb hbit
        by_cases h5 : 255 < x * 2
        · have q2 : decide ((255 : Int) < (x : Int) * 2) = true := by simp; omega
          go_wp2
          go_roundw
          case rel => exact ⟨n', b / 2, p ^^^ x, xt x, by rw [← HD.out], by rw [HEX.out], by have := HX.out; rw [if_pos h5] at this; rw [HE2.out, this], by have := HN.out; rw [Hbit.out, Nat.one_mul] at this; exact Lib.hid this, Lib.hid ⟨_, rfl⟩⟩
          case measure => have := HB2.out; simp [intOf]; omega
        · have q2 : decide ((255 : Int) < (x : Int) * 2) = false := by simp; omega
          go_wp2
          go_roundw
          case rel => exact ⟨n', b / 2, p ^^^ x, xt x, by rw [← HD.out], by rw [HEX.out], by have := HX.out; rw [if_neg h5] at this; rw [← this]; congr 1, by have := HN.out; rw [Hbit.out, Nat.one_mul] at this; exact Lib.hid this, Lib.hid ⟨_, rfl⟩⟩
          case measure => have := HB2.out; simp [intOf]; omega
    · obtain rfl : b = 0 := by omega
      obtain rfl := mulInv_end hJ.out
      have c3 : decide ((0 : Int) < ((0 : Nat) : Int)) = false := by decide
      go_wp2
      go_ret
      exact ⟨by congr 2, m, rfl⟩

theorem ints_at {w : World} {a : Addr} {n : Nat} {xs : List Int} (h : ReadsInt w .u8 (some a) n xs) (i : Nat) (hi : i < n) : w.cell? (a.add i) = some (.int .u8 (xs.getD i 0)) := by
  obtain ⟨ad, e, hc⟩ := h.at_ (i : Int) (by omega) (by omega)
  cases e
  simpa [rd] using hc
theorem getD_of {xs : List Int} {i : Nat} (h : i < xs.length) : xs.getD i 0 = xs[i] := by rw [List.getD_eq_getElem?_getD, List.getElem?_eq_getElem h]; rfl

set_option maxRecDepth 100000 in
theorem equal_len (A1 A2 : Option Addr) (c1 c2 n m : Nat) (w : World) (h : n ≠ m) :
    Calls Try.prog 40 #[.slice A1 n c1, .slice A2 m c2] w fun e w' => e = .returned (.bool false) ∧ ∃ n, w' = w.drewN n := by
  have hd : ((n : Int) != (m : Int)) = true := by simp; omega
  clear h
  go_enter Try.func40, Try.ntmps40
  go_wp2
  go_ret
  exact ⟨rfl, 0, rfl⟩
set_option maxRecDepth 100000 in
theorem equal_walk (a1 a2 : Addr) (c1 c2 n : Nat) (xs ys : List Int) (w : World) (h1 : ReadsInt w .u8 (some a1) n xs) (h2 : ReadsInt w .u8 (some a2) n ys) (hn : n ≤ 9223372036854775806) :
    Calls Try.prog 40 #[.slice (some a1) n c1, .slice (some a2) n c2] w fun e w' => e = .returned (.bool (decide (xs = ys))) ∧ ∃ n, w' = w.drewN n := by
  have l1 := Lib.hid h1.1
  have l2 := Lib.hid h2.1
  have H1 := Lib.hid h1
  have H2 := Lib.hid h2
  have hd : ((n : Int) != (n : Int)) = false := by simp
  obtain ⟨z, hz⟩ : ∃ z, z = decide (xs = ys) := ⟨_, rfl⟩
  rw [← hz]
  have HZ := Lib.hid hz
  clear h1 h2 hz
  go_enter Try.func40, Try.ntmps40
  go_wp2
  go_loopw [5, 13] (fun _ i wr => ∃ k : Nat, k ≤ n ∧ i = .int .i64 k ∧ Hid (xs.take k = ys.take k) ∧ Hid (∃ m, wr = w.drewN m)) (fun _ i _ => n - (intOf i).toNat)
  case atStart => exact ⟨0, by omega, rfl, Lib.hid (by simp), Lib.hid ⟨0, rfl⟩⟩
  case round =>
    obtain ⟨k, hk, rfl, hT, hW⟩ := hrel
    obtain ⟨m, hm⟩ := hW.out
    subst hm
    by_cases hlt : k < n
    · have c1 := ints_at H1.out k hlt
      have c2 := ints_at H2.out k hlt
      have p0 : (0 : Int) ≤ (k : Int) := by omega
      have p1 : (k : Int) < (n : Int) := by omega
      obtain ⟨x, hx⟩ : ∃ x, x = xs.getD k 0 := ⟨_, rfl⟩
      obtain ⟨y, hy⟩ : ∃ y, y = ys.getD k 0 := ⟨_, rfl⟩
      rw [← hx] at c1
      rw [← hy] at c2
      have HX := Lib.hid hx
      have HY := Lib.hid hy
      clear hx hy
      by_cases hc : x = y
      · subst hc
        have hne : ((x : Int) != (x : Int)) = false := by simp
        have HT2 := Lib.hid (show xs.take (k + 1) = ys.take (k + 1) by
          have i1 : k < xs.length := by rw [l1.out]; exact hlt
          have i2 : k < ys.length := by rw [l2.out]; exact hlt
          rw [List.take_succ_eq_append_getElem i1, List.take_succ_eq_append_getElem i2, hT.out, ← getD_of i1, ← getD_of i2, ← HX.out, ← HY.out])
        go_wp2
        go_quiet (fail)
        go_wp2
        go_roundw
        case rel => exact ⟨k + 1, by omega, by go_num, HT2, Lib.hid ⟨_, rfl⟩⟩
        case measure => simp [intOf]; omega
      · have hne : ((x : Int) != (y : Int)) = true := by simp; exact hc
        have HC := Lib.hid hc
        clear hc
        go_wp2
        go_quiet (fail)
        go_wp2
        go_ret
        refine ⟨?_, _, World.drewN_drewN _ _ _⟩
        show Ending.returned (.bool false) = .returned (.bool z)
        rw [HZ.out, decide_eq_false (fun e => HC.out (by rw [HX.out, HY.out, e]))]
    · obtain rfl : k = n := by omega
      go_wp2
      go_ret
      refine ⟨?_, m, rfl⟩
      have := hT.out
      rw [List.take_of_length_le (by rw [l1.out]; exact Nat.le_refl _), List.take_of_length_le (by rw [l2.out]; exact Nat.le_refl _)] at this
      show Ending.returned (.bool true) = .returned (.bool z)
      rw [HZ.out, decide_eq_true this]
end Go.Proofs.Ytelgefkfflgbeaa.Mat
/- What gf.Add, Dot and Same come to. -/
namespace Go.Proofs.Ytelgefkfflgbeaa.Mat
open Go Go.RowKit Go.Proofs.Ytelgefkfflgbeaa.Mem Go.Proofs.Ytelgefkfflgbeaa.Bits Go.Proofs.Ytelgefkfflgbeaa.Gf Go.Proofs.YtelgefkfflgbeaaW.PrintWords
set_option linter.unusedVariables false

def gmI (a b : Int) : Int := (gm a.toNat b.toNat : Nat)
def xorI (a b : Int) : Int := (a.toNat ^^^ b.toNat : Nat)
theorem gmI_range (a b : Int) (ha : a < 256) : 0 ≤ gmI a b ∧ gmI a b < 256 := by
  have := gm_lt a.toNat b.toNat (by omega)
  unfold gmI; omega
theorem xorI_range (a b : Int) (ha : a < 256) (hb : b < 256) : 0 ≤ xorI a b ∧ xorI a b < 256 := by
  have : a.toNat ^^^ b.toNat < 2 ^ 8 := Nat.xor_lt_two_pow (by omega) (by omega)
  unfold xorI; omega
theorem mul_calls (a b : Int) (w : World) (ha : 0 ≤ a ∧ a < 256) (hb : 0 ≤ b ∧ b < 256) :
    Calls Try.prog 27 #[.int .u8 a, .int .u8 b] w fun e w' => e = .returned (.int .u8 (gmI a b)) ∧ ∃ n, w' = w.drewN n := by
  obtain ⟨a, rfl⟩ := Int.eq_ofNat_of_zero_le ha.1
  obtain ⟨b, rfl⟩ := Int.eq_ofNat_of_zero_le hb.1
  refine (mul_walk a b w (by omega) (by omega)).mono ?_
  rintro e w' ⟨rfl, n, rfl⟩
  exact ⟨by simp [gmI], n, rfl⟩
set_option maxRecDepth 100000 in
theorem add_calls (a b : Int) (w : World) (ha : 0 ≤ a ∧ a < 256) (hb : 0 ≤ b ∧ b < 256) :
    Calls Try.prog 26 #[.int .u8 a, .int .u8 b] w fun e w' => e = .returned (.int .u8 (xorI a b)) ∧ ∃ n, w' = w.drewN n := by
  obtain ⟨a, rfl⟩ := Int.eq_ofNat_of_zero_le ha.1
  obtain ⟨b, rfl⟩ := Int.eq_ofNat_of_zero_le hb.1
  have hx := xor_u8 a b (by omega) (by omega)
  go_enter Try.func26, Try.ntmps26
  go_wp2
  go_ret
  exact ⟨by simp [xorI], 0, rfl⟩

/-- The sum of products of n elements. -/
def dotTo (xs ys : List Int) : Nat → Int
  | 0 => 0
  | n + 1 => xorI (dotTo xs ys n) (gmI (xs.getD n 0) (ys.getD n 0))
theorem dotTo_range (xs ys : List Int) (hx : Bytes xs) (n : Nat) : 0 ≤ dotTo xs ys n ∧ dotTo xs ys n < 256 := by
  induction n with
  | zero => simp [dotTo]
  | succ n ih => exact xorI_range _ _ ih.2 (gmI_range _ _ (hx.getD n).2).2

theorem reads_at {w : World} {a : Addr} {n : Nat} {xs : List Int} (h : ReadsInt w .u8 (some a) n xs) (i : Nat) (hi : i < n) : w.cell? (a.add i) = some (.int .u8 (xs.getD i 0)) := by
  obtain ⟨ad, e, hc⟩ := h.at_ (i : Int) (by omega) (by omega)
  cases e
  simpa [rd] using hc

set_option maxRecDepth 100000 in
theorem dot_le (a1 a2 : Addr) (c1 c2 n m0 : Nat) (xs ys : List Int) (w : World) (h1 : ReadsInt w .u8 (some a1) n xs) (h2 : ReadsInt w .u8 (some a2) m0 ys) (hx : Bytes xs) (hy : Bytes ys) (hn : n ≤ 4096) (hm : n ≤ m0) :
    Calls Try.prog 38 #[.slice (some a1) n c1, .slice (some a2) m0 c2] w fun e w' => e = .returned (.int .u8 (dotTo xs ys n)) ∧ ∃ n, w' = w.drewN n := by
  have H1 := Lib.hid h1
  have H2 := Lib.hid h2
  clear h1 h2
  have HX := Lib.hid hx
  have HY := Lib.hid hy
  clear hx hy
  go_enter Try.func38, Try.ntmps38
  go_wp2
  repeat (go_quiet (fail); try go_wp2)
  go_loopw [5, 6, 12] (fun x _ i wr => ∃ (k : Nat), k ≤ n ∧ i = .int .i64 k ∧ x = .int .u8 (dotTo xs ys k) ∧ Hid (∃ m, wr = w.drewN m)) (fun _ _ i _ => n - (intOf i).toNat)
  case atStart => exact ⟨0, by omega, rfl, rfl, Lib.hid ⟨0, rfl⟩⟩
  case round =>
    obtain ⟨k, hk, rfl, rfl, HW⟩ := hrel
    obtain ⟨m, hwm⟩ := HW.out
    subst hwm
    by_cases hlt : k < n
    · have c1 := reads_at H1.out k (by omega)
      have c2 := reads_at H2.out k (by omega)
      have HD := Lib.hid (show dotTo xs ys (k + 1) = xorI (dotTo xs ys k) (gmI (xs.getD k 0) (ys.getD k 0)) from rfl)
      have hr := Lib.hid (dotTo_range xs ys HX.out k)
      have b1 := Lib.hid (HX.out.getD k)
      have b2 := Lib.hid (HY.out.getD k)
      obtain ⟨z, hz⟩ : ∃ z, z = dotTo xs ys (k + 1) := ⟨_, rfl⟩
      rw [← hz] at HD
      obtain ⟨s, hs⟩ : ∃ s, s = dotTo xs ys k := ⟨_, rfl⟩
      rw [← hs] at HD hr ⊢
      obtain ⟨x, hxx⟩ : ∃ x, x = xs.getD k 0 := ⟨_, rfl⟩
      obtain ⟨y, hyy⟩ : ∃ y, y = ys.getD k 0 := ⟨_, rfl⟩
      rw [← hxx] at c1 HD b1
      rw [← hyy] at c2 HD b2
      have HZ := Lib.hid hz
      clear hz hs hxx hyy
      have p0 : (0 : Int) ≤ (k : Int) := by omega
      have p1 : (k : Int) < (n : Int) := by omega
      have p2 : (k : Int) < (m0 : Int) := by omega
      have b3 := Lib.hid (gmI_range x y b1.out.2)
      go_wp2
      go_quiet (first
        | (go_at_call 27; (with_reducible refine (mul_calls _ _ _ b1.out b2.out).mono ?_); rintro e w' ⟨rfl, ⟨nd, rfl⟩⟩; (first | exact ⟨rfl, _, World.drewN_drewN _ _ _⟩ | exact ⟨rfl, _, Eq.trans (World.drewN_drewN _ _ _) (congrArg (World.drewN _) (Nat.add_assoc _ _ _))⟩ | exact ⟨rfl, _, rfl⟩))
        | (go_at_call 26; (with_reducible refine (add_calls _ _ _ hr.out b3.out).mono ?_); rintro e w' ⟨rfl, ⟨nd, rfl⟩⟩; (first | exact ⟨rfl, _, World.drewN_drewN _ _ _⟩ | exact ⟨rfl, _, Eq.trans (World.drewN_drewN _ _ _) (congrArg (World.drewN _) (Nat.add_assoc _ _ _))⟩ | exact ⟨rfl, _, rfl⟩)))
      go_wp2
      go_roundw
      case rel => exact ⟨k + 1, by omega, by go_num, by rw [← HZ.out, HD.out], Lib.hid ⟨_, rfl⟩⟩
      case measure => simp [intOf]; omega
    · obtain rfl : k = n := by omega
      go_wp2
      go_ret
      exact ⟨rfl, m, rfl⟩

set_option maxRecDepth 100000 in
theorem dot_gt (a1 a2 : Addr) (c1 c2 n m0 : Nat) (xs ys : List Int) (w : World) (h1 : ReadsInt w .u8 (some a1) m0 xs) (h2 : ReadsInt w .u8 (some a2) n ys) (hx : Bytes xs) (hy : Bytes ys) (hn : n ≤ 4096) (hm : n < m0) :
    Calls Try.prog 38 #[.slice (some a1) m0 c1, .slice (some a2) n c2] w fun e w' => e = .returned (.int .u8 (dotTo xs ys n)) ∧ ∃ n, w' = w.drewN n := by
  have H1 := Lib.hid h1
  have H2 := Lib.hid h2
  clear h1 h2
  have HX := Lib.hid hx
  have HY := Lib.hid hy
  clear hx hy
  go_enter Try.func38, Try.ntmps38
  go_wp2
  repeat (go_quiet (fail); try go_wp2)
  go_loopw [5, 6, 12] (fun x _ i wr => ∃ (k : Nat), k ≤ n ∧ i = .int .i64 k ∧ x = .int .u8 (dotTo xs ys k) ∧ Hid (∃ m, wr = w.drewN m)) (fun _ _ i _ => n - (intOf i).toNat)
  case atStart => exact ⟨0, by omega, rfl, rfl, Lib.hid ⟨0, rfl⟩⟩
  case round =>
    obtain ⟨k, hk, rfl, rfl, HW⟩ := hrel
    obtain ⟨m, hwm⟩ := HW.out
    subst hwm
    by_cases hlt : k < n
    · have c1 := reads_at H1.out k (by omega)
      have c2 := reads_at H2.out k (by omega)
      have HD := Lib.hid (show dotTo xs ys (k + 1) = xorI (dotTo xs ys k) (gmI (xs.getD k 0) (ys.getD k 0)) from rfl)
      have hr := Lib.hid (dotTo_range xs ys HX.out k)
      have b1 := Lib.hid (HX.out.getD k)
      have b2 := Lib.hid (HY.out.getD k)
      obtain ⟨z, hz⟩ : ∃ z, z = dotTo xs ys (k + 1) := ⟨_, rfl⟩
      rw [← hz] at HD
      obtain ⟨s, hs⟩ : ∃ s, s = dotTo xs ys k := ⟨_, rfl⟩
      rw [← hs] at HD hr ⊢
      obtain ⟨x, hxx⟩ : ∃ x, x = xs.getD k 0 := ⟨_, rfl⟩
      obtain ⟨y, hyy⟩ : ∃ y, y = ys.getD k 0 := ⟨_, rfl⟩
      rw [← hxx] at c1 HD b1
      rw [← hyy] at c2 HD b2
      have HZ := Lib.hid hz
      clear hz hs hxx hyy
      have p0 : (0 : Int) ≤ (k : Int) := by omega
      have p1 : (k : Int) < (m0 : Int) := by omega
      have p2 : (k : Int) < (n : Int) := by omega
      have b3 := Lib.hid (gmI_range x y b1.out.2)
      go_wp2
      go_quiet (first
        | (go_at_call 27; (with_reducible refine (mul_calls _ _ _ b1.out b2.out).mono ?_); rintro e w' ⟨rfl, ⟨nd, rfl⟩⟩; (first | exact ⟨rfl, _, World.drewN_drewN _ _ _⟩ | exact ⟨rfl, _, Eq.trans (World.drewN_drewN _ _ _) (congrArg (World.drewN _) (Nat.add_assoc _ _ _))⟩ | exact ⟨rfl, _, rfl⟩))
        | (go_at_call 26; (with_reducible refine (add_calls _ _ _ hr.out b3.out).mono ?_); rintro e w' ⟨rfl, ⟨nd, rfl⟩⟩; (first | exact ⟨rfl, _, World.drewN_drewN _ _ _⟩ | exact ⟨rfl, _, Eq.trans (World.drewN_drewN _ _ _) (congrArg (World.drewN _) (Nat.add_assoc _ _ _))⟩ | exact ⟨rfl, _, rfl⟩)))
      go_wp2
      go_roundw
      case rel => exact ⟨k + 1, by omega, by go_num, by rw [← HZ.out, HD.out], Lib.hid ⟨_, rfl⟩⟩
      case measure => simp [intOf]; omega
    · obtain rfl : k = n := by omega
      go_wp2
      go_ret
      exact ⟨rfl, m, rfl⟩

theorem C_of_ints {w : World} {A : Option Addr} {n : Nat} {xs : List Int} (h : ReadsInt w .u8 A n xs) : (Kd.int .u8).C w A n xs := Kd.C_of_reads (enc := Value.int .u8) (d := (0 : Int)) (h1 := fun _ => rfl) h

set_option maxRecDepth 100000 in
theorem same_nils (w : World) :
    Calls Try.prog 23 #[.pointer none, .pointer none] w fun e w' => e = .returned (.bool true) ∧ ∃ n, w' = w.drewN n := by
  have kn : ∀ W : World, (binOp .eql 35 (.pointer none) (.pointer none)).run Try.prog W = .ok (.bool true) W := fun _ => by kernel_rfl
  go_enter Try.func23, Try.ntmps23
  go_wp2
  go_ret
  exact ⟨rfl, 0, rfl⟩
theorem nil_eql (a : Addr) (W : World) : (binOp .eql 35 (.pointer none) (.pointer (some a))).run Try.prog W = .ok (.bool false) W := by
  have h : ∀ d : Nat, (Op.equalIn (d + 1) 35 (.pointer none) (.pointer (some a))).run Try.prog W = .ok false W := fun d => by
    simp [Op.equalIn, run_underlying Try.underlying35]
  simp only [binOp]
  simp [Op.equal, Op.maxDepth, h 9999]
set_option maxRecDepth 100000 in
theorem same_nil_l (a : Addr) (w : World) :
    Calls Try.prog 23 #[.pointer none, .pointer (some a)] w fun e w' => e = .returned (.bool false) ∧ ∃ n, w' = w.drewN n := by
  have kn := nil_eql a
  go_enter Try.func23, Try.ntmps23
  go_wp2
  go_ret
  exact ⟨rfl, 0, rfl⟩
set_option maxRecDepth 100000 in
theorem same_nil_r (a : Addr) (w : World) :
    Calls Try.prog 23 #[.pointer (some a), .pointer none] w fun e w' => e = .returned (.bool false) ∧ ∃ n, w' = w.drewN n := by
  go_enter Try.func23, Try.ntmps23
  go_wp2
  go_ret
  exact ⟨rfl, 0, rfl⟩
theorem bool_is (p q : Prop) [Decidable p] [Decidable q] (h : p ↔ q) : Ending.returned (.bool (decide p)) = .returned (.bool (decide q)) := by rw [decide_eq_decide.mpr h]
/-- Are two matrices alike? -/
def AlikeB (r c : Nat) (xs : List Int) (r' c' : Nat) (ys : List Int) : Bool := decide (r = r' ∧ c = c' ∧ xs = ys)

set_option maxRecDepth 100000 in
theorem same_any (v u : Value) (r c r' c' : Nat) (xs ys : List Int) (w : World) (h : IsMat w v r c xs) (h' : IsMat w u r' c' ys) :
    Calls Try.prog 23 #[v, u] w fun e w' => e = .returned (.bool (AlikeB r c xs r' c' ys)) ∧ ∃ n, w' = w.drewN n := by
  obtain ⟨b, s, cap, rfl, h⟩ := h
  obtain ⟨b', s', cap', rfl, h'⟩ := h'
  obtain ⟨m0, m1, m2⟩ := h.cells
  obtain ⟨n0, n1, n2⟩ := h'.cells
  by_cases e1 : r = r'
  · by_cases e2 : c = c'
    · subst e1; subst e2
      have hA : AlikeB r c xs r c ys = decide (xs = ys) := by unfold AlikeB; simp
      rw [hA]
      obtain ⟨z, hz⟩ : ∃ z, z = decide (xs = ys) := ⟨_, rfl⟩
      rw [← hz]
      have HZ := Lib.hid hz
      have hR1 := h.reads
      have hR2 := h'.reads
      have hrc := h.rc
      rw [h.len] at hR1
      rw [h'.len] at hR2
      obtain ⟨q, hq⟩ : ∃ q, q = r * c := ⟨_, rfl⟩
      rw [← hq] at m2 n2 hR1 hR2 hrc
      have HR1 := Lib.hid hR1
      have HR2 := Lib.hid hR2
      clear h h' hz hA hq hR1 hR2
      go_enter Try.func23, Try.ntmps23
      go_wp2
      go_quiet ((go_at_call 40; (refine (equal_walk _ _ _ _ q xs ys _ (HR1.out.drewN _) (HR2.out.drewN _) (by omega)).mono ?_); rintro e w' ⟨rfl, ⟨nd, rfl⟩⟩; rw [← HZ.out]; (first | exact ⟨rfl, _, World.drewN_drewN _ _ _⟩ | exact ⟨rfl, _, Eq.trans (World.drewN_drewN _ _ _) (congrArg (World.drewN _) (Nat.add_assoc _ _ _))⟩ | exact ⟨rfl, _, rfl⟩)))
      go_wp2
      go_ret
      exact ⟨rfl, _, rfl⟩
    · have hA : AlikeB r c xs r' c' ys = false := by unfold AlikeB; simp [e2]
      rw [hA]
      subst e1
      have hc2 : ((c : Int) == (c' : Int)) = false := by simp; omega
      clear h h' e2 hA
      go_enter Try.func23, Try.ntmps23
      go_wp2
      go_quiet (fail)
      go_wp2
      go_ret
      exact ⟨rfl, _, rfl⟩
  · have hA : AlikeB r c xs r' c' ys = false := by unfold AlikeB; simp [e1]
    rw [hA]
    have hc2 : ((r : Int) == (r' : Int)) = false := by simp; omega
    clear h h' e1 hA
    go_enter Try.func23, Try.ntmps23
    go_wp2
    go_quiet (fail)
    go_wp2
    go_ret
    exact ⟨rfl, _, rfl⟩
end Go.Proofs.Ytelgefkfflgbeaa.Mat
/- What the rows of a matrix, in the statements' own function, come to; and rows picked. -/
namespace Go.Proofs.Ytelgefkfflgbeaa.Mat
open Go Go.RowKit Go.Proofs.Ytelgefkfflgbeaa.Mem Go.Proofs.Ytelgefkfflgbeaa.Bits Go.Proofs.YtelgefkfflgbeaaW.PrintWords
set_option linter.unusedVariables false

def rowsTo (c : Nat) (xs : List Int) (n : Nat) : List (List Int) := (List.range n).map (rowOf c xs)
theorem rowsTo_succ (c : Nat) (xs : List Int) (n : Nat) : rowsTo c xs (n + 1) = rowsTo c xs n ++ [rowOf c xs n] := by simp [rowsTo, List.range_succ]
theorem rowsTo_len (c : Nat) (xs : List Int) (n : Nat) : (rowsTo c xs n).length = n := by simp [rowsTo]
theorem info_rows : (Try.prog.info? 22).map (fun i => (i.zero, i.size, i.bytes)) = some (some (.slice none 0 0), 1, 24) := by kernel_rfl
abbrev kRow : Kd (List Int) := Kd.slice 5 (Kd.int .u8)
/-- Rows of the call's own. -/
abbrev RowsR (w : World) (base : Nat) (v : Value) (ls : List (List Int)) : Prop := Kd.R kRow 22 w base (fun _ => True) v ls

theorem row_M {w : World} {base b0 : Nat} {u : Value} {n : Nat} {ys : List Int} (h : w.ownsRow b0 5 1 u n (nums .u8 ys)) (hb : base ≤ b0) (hn : ys.length = n) : kRow.M w base (fun k => some k = u.ownBlock) ys [u] := by
  refine ⟨u, rfl, Kd.R_of_own ?_ (fun k hk => hk.symm)⟩
  have := own_weaken h hb
  rw [← hn] at this; exact this

/-- One row more, appended. -/
theorem rows_append {P : Program} {ops : Array Oper} {rest : List Oper} {o : Oper} {a : Act} {Q : Exit → Act → World → Prop} {w0 W wr : World} (hP : P = Try.prog) (base : Nat) (hgd : o.guard = none) (s x : Operand)
    (ho : o.op = .call { callee := .builtin .append, args := #[s, x], argTypes := #[52, 52] }) (v : Value) (ls : List (List Int)) (ys : List Int) (g cap n : Nat)
    (hs : a.eval s = v) (hx : a.eval x = .slice (some ⟨W.heap.size, 0, none⟩) 1 1) (HR : RowsR wr base v ls) (HB : Below base w0 wr) (hbase : base ≤ wr.heap.size) (hB : Below wr.heap.size wr W)
    (hu : W.ownsRow wr.heap.size 5 1 (.slice (some ⟨g, 0, none⟩) n cap) n (nums .u8 ys)) (hn : ys.length = n) (hg : wr.heap.size ≤ g) (hl : ls.length ≤ 1000000)
    (h : ∀ v1 w1, RowsR w1 base v1 (ls ++ [ys]) → Below base w0 w1 → wpList P ops Q rest (a.put o.dst v1) w1) :
    wpList P ops Q (o :: rest) a (W.alloc (.cells #[.slice (some ⟨g, 0, none⟩) n cap] 22)) := by
  subst hP
  refine Kd.R_append kRow (w0 := w0) base hgd s x 52 22 (.slice none 0 0) 24 ho Try.underlying52 info_rows rfl (by decide) (by decide) v ls ys [.slice (some ⟨g, 0, none⟩) n cap] (fun _ => True)
    (fun k => some k = (Value.slice (some ⟨g, 0, none⟩) n cap).ownBlock) hs hx (row_M hu hbase hn) ?_ (fun _ _ => trivial) (Kd.R_below HR hB) ?_ (Nat.le_trans hbase hB.size) (by omega) (fun v1 w1 h1 h2 _ _ => h v1 w1 h1 h2)
  · intro k hk
    refine ⟨trivial, fun e => ?_⟩
    have e1 : g = k := by simpa [Value.ownBlock] using hk.symm
    have := Kd.R_lt HR k e.symm
    omega
  · exact HB.trans (hB.mono hbase)

end Go.Proofs.Ytelgefkfflgbeaa.Mat
/- Rows that are a matrix, and what Of comes to of them (for seats without the functions of law03). -/
namespace Go.Proofs.Ytelgefkfflgbeaa.Mat
open Go Go.RowKit Go.Proofs.Ytelgefkfflgbeaa.Mem Go.Proofs.Ytelgefkfflgbeaa.Bits Go.Proofs.YtelgefkfflgbeaaW.PrintWords
set_option linter.unusedVariables false

theorem rowOf_get {c : Nat} {xs : List Int} (i j : Nat) (hj : j < c) : (rowOf c xs i).getD j 0 = xs.getD (i * c + j) 0 := by
  unfold rowOf
  rw [List.getD_eq_getElem?_getD, List.getD_eq_getElem?_getD, List.getElem?_drop, List.getElem?_take_of_lt (by rw [Nat.add_mul]; omega)]
/-- May rows be a matrix? -/
structure RightP (ls : List (List Int)) : Prop where
  r0 : 1 ≤ ls.length
  r1 : ls.length ≤ 64
  c0 : 1 ≤ (ls.getD 0 []).length
  c1 : (ls.getD 0 []).length ≤ 64
  even : ∀ l ∈ ls, l.length = (ls.getD 0 []).length
instance (ls : List (List Int)) : Decidable (RightP ls) :=
  if h : 1 ≤ ls.length ∧ ls.length ≤ 64 ∧ 1 ≤ (ls.getD 0 []).length ∧ (ls.getD 0 []).length ≤ 64 ∧ ∀ l ∈ ls, l.length = (ls.getD 0 []).length then isTrue ⟨h.1, h.2.1, h.2.2.1, h.2.2.2.1, h.2.2.2.2⟩
  else isFalse (fun g => h ⟨g.r0, g.r1, g.c0, g.c1, g.even⟩)

theorem flat_split (ls : List (List Int)) (i : Nat) (hi : i < ls.length) : flat ls = flat (ls.take i) ++ (ls.getD i [] ++ flat (ls.drop (i + 1))) := by
  unfold flat
  rw [List.getD_eq_getElem?_getD, List.getElem?_eq_getElem hi, Option.getD_some, ← List.flatten_cons, List.getElem_cons_drop, ← List.flatten_append, List.take_append_drop]
theorem getD_mem {ls : List (List Int)} {i : Nat} (hi : i < ls.length) : ls.getD i [] ∈ ls := by
  rw [List.getD_eq_getElem?_getD, List.getElem?_eq_getElem hi, Option.getD_some]
  exact List.getElem_mem _
theorem rowOf_flat (c : Nat) (ls : List (List Int)) (h : ∀ l ∈ ls, l.length = c) (i : Nat) (hi : i < ls.length) : rowOf c (flat ls) i = ls.getD i [] := by
  have h1 := take_flat c ls h i (by omega)
  have h2 := h _ (getD_mem hi)
  unfold rowOf
  have hh : flat (ls.take i) ++ (ls.getD i [] ++ flat (ls.drop (i + 1))) = (flat (ls.take i) ++ ls.getD i []) ++ flat (ls.drop (i + 1)) := by simp
  rw [flat_split ls i hi, hh, List.take_left' (by rw [List.length_append, h1, h2, Nat.add_mul, Nat.one_mul]), List.drop_left' h1]
theorem rowsTo_flat (c : Nat) (ls : List (List Int)) (h : ∀ l ∈ ls, l.length = c) : rowsTo c (flat ls) ls.length = ls := by
  refine List.ext_getElem (by rw [rowsTo_len]) (fun i h1 h2 => ?_)
  simp only [rowsTo, List.getElem_map, List.getElem_range]
  rw [rowOf_flat c ls h i h2, List.getD_eq_getElem?_getD, List.getElem?_eq_getElem h2, Option.getD_some]
theorem flat_getD (c : Nat) (ls : List (List Int)) (h : ∀ l ∈ ls, l.length = c) (i k : Nat) (hi : i < ls.length) (hk : k < c) : (flat ls).getD (i * c + k) 0 = (ls.getD i []).getD k 0 := by
  rw [← rowOf_flat c ls h i hi, rowOf_get i k hk]
theorem alike_refl (r c : Nat) (xs : List Int) : AlikeB r c xs r c xs = true := decide_eq_true ⟨rfl, rfl, rfl⟩
theorem alike_set (r c : Nat) (xs : List Int) (n : Nat) (hn : n < xs.length) (x : Int) : AlikeB r c xs r c (xs.set n x) = decide (xs.getD n 0 = x) := by
  unfold AlikeB
  rw [decide_eq_decide]
  constructor
  · rintro ⟨_, _, e⟩
    rw [e, List.getD_eq_getElem?_getD, List.getElem?_set_self (by simpa using hn)]; rfl
  · intro e
    refine ⟨rfl, rfl, ?_⟩
    rw [List.getD_eq_getElem?_getD, List.getElem?_eq_getElem hn, Option.getD_some] at e
    subst e
    exact (List.set_getElem_self hn).symm
/-- Rows that are no matrix. -/
theorem of_bad (A : Option Addr) (c0 : Nat) (ls : List (List Int)) (w : World) (h : RowsC w A ls) (hby : AllBytes ls) (hl : ls.length ≤ c0) (hm : ls.length ≤ 9223372036854775807) (hn : ¬ RightP ls) :
    Calls Try.prog 33 #[.slice A ls.length c0] w fun e w' => e = .returned (.tuple #[.pointer none, .int .i64 1]) ∧ Below w.heap.size w w' := by
  by_cases h0 : ls.length = 0
  · obtain rfl : ls = [] := List.eq_nil_of_length_eq_zero h0
    refine (of_none A c0 w).mono ?_
    rintro e w' ⟨rfl, rfl⟩
    exact ⟨rfl, Below.refl _ _⟩
  · by_cases hb : ls.length ≤ 64 ∧ 1 ≤ (ls.getD 0 []).length ∧ (ls.getD 0 []).length ≤ 64
    · refine (of_any A c0 ls w h hby hl (by omega) hb.1 hb.2.1 hb.2.2).mono ?_
      rintro e w' (⟨he, _⟩ | ⟨_, rfl, hB⟩)
      · refine absurd ⟨by omega, hb.1, hb.2.1, hb.2.2, fun l hl => ?_⟩ hn
        exact he l (by rwa [List.take_length])
      · exact ⟨rfl, hB⟩
    · exact of_wide A c0 ls w h hl (by omega) hm hb
theorem flat_cols {ls : List (List Int)} (h : RightP ls) : EvenTo (ls.getD 0 []).length ls ls.length := fun l hl => h.even l (by rwa [List.take_length] at hl)
theorem of_right (A : Option Addr) (c0 : Nat) (ls : List (List Int)) (w W : World) (hB : Below w.heap.size w W) (h : RowsC w A ls) (hR : RightP ls) (hby : AllBytes ls) (hl : ls.length ≤ c0) :
    Calls Try.prog 33 #[.slice A ls.length c0] W fun e w' => ∃ b s cap, e = .returned (.tuple #[.pointer (some ⟨b, 0, none⟩), .int .i64 0]) ∧ MatIn w' b s ls.length (ls.getD 0 []).length cap (flat ls) ∧ Below W.heap.size W w' ∧ W.heap.size ≤ b ∧ W.heap.size ≤ s := by
  refine (of_any A c0 ls W (Kd.C_below h hB) hby hl hR.r0 hR.r1 hR.c0 hR.c1).mono ?_
  rintro e w' (⟨_, b, s, cap, rfl, hm, hb, h1, h2⟩ | ⟨hn, _⟩)
  · exact ⟨b, s, cap, rfl, hm, hb, h1, h2⟩
  · exact absurd (flat_cols hR) hn
theorem flat_bytes {ls : List (List Int)} (h : AllBytes ls) : Bytes (flat ls) := by
  intro y hy
  obtain ⟨l, hl, h'⟩ := List.mem_flatten.1 hy
  exact h l hl y h'
end Go.Proofs.Ytelgefkfflgbeaa.Mat
/- Rows of powers, and the matrix of points. -/
namespace Go.Proofs.Ytelgefkfflgbeaa.VRows
open Go Go.RowKit Go.Proofs.Ytelgefkfflgbeaa.PVandRows Go.Proofs.Ytelgefkfflgbeaa.BVandRows Go.Proofs.Ytelgefkfflgbeaa.Gf Go.Proofs.Ytelgefkfflgbeaa.Bits Go.Proofs.Ytelgefkfflgbeaa.Mem Go.Proofs.Ytelgefkfflgbeaa.VPts Go.Proofs.Ytelgefkfflgbeaa.Mat Go.Proofs.YtelgefkfflgbeaaW.PrintWords Go.Proofs.YtelgefkfflgbeaaW.PrintLast
set_option linter.unusedVariables false

def pows (x n : Nat) : List Int := (List.range n).map (fun i => ((gp x i : Nat) : Int))
theorem pows_succ (x n : Nat) : pows x (n + 1) = pows x n ++ [((gp x n : Nat) : Int)] := by simp [pows, List.range_succ]
theorem pows_len (x n : Nat) : (pows x n).length = n := by simp [pows]
theorem pows_bytes (x n : Nat) (hx : x < 256) : Bytes (pows x n) := by
  intro y hy
  obtain ⟨i, _, rfl⟩ := List.mem_map.1 hy
  have := gp_lt x hx i
  omega
theorem vinc (i : Nat) (h : i < 1000000) : wrap64 ((i : Int) + 1) = ((i + 1 : Nat) : Int) := by rw [wrap64_in _ (by omega) (by omega)]; omega
theorem vrow_loop (x : Nat) (hx : x < 256) (n : Nat) (hn : n ≤ 100) (d : Nat) : ∀ (k i : Nat), i + d = n → 20 + d ≤ k → vand_Row.l0 k x (pows x i) ((gp x i : Nat) : Int) n i = some (pows x n) := by
  induction d with
  | zero =>
    intro k i hd hk
    obtain ⟨k, rfl⟩ : ∃ m, k = m + 1 := ⟨k - 1, by omega⟩
    obtain rfl : i = n := by omega
    simp only [vand_Row.l0]
    rw [if_neg (by omega)]
  | succ d ih =>
    intro k i hd hk
    obtain ⟨k, rfl⟩ : ∃ m, k = m + 1 := ⟨k - 1, by omega⟩
    simp only [vand_Row.l0]
    rw [if_pos (by omega), if_pos (by rw [pows_len]; omega), gf_mul k (gp x i) x (gp_lt x hx i) hx (by omega), bnd, vinc i (by omega), ← pows_succ, gp_succ]
    exact ih k (i + 1) (by omega) (by omega)
theorem vrow_f (x : Nat) (hx : x < 256) (n : Int) (hn : n ≤ 100) : vand_Row.f 200 x n = some (pows x n.toNat) := by
  have h0 := vrow_loop x hx n.toNat (by omega) n.toNat 200 0 (by omega) (by omega)
  unfold vand_Row.f
  have : mx n 0 = ((n.toNat : Nat) : Int) := by
    unfold mx
    split <;> omega
  rw [this]
  exact h0
theorem rrow_loop (x : Nat) (hx : x < 256) (n : Nat) (hn : n ≤ 100) (d : Nat) : ∀ (k i : Nat), i + d = n → 200 + d ≤ k → coldframeref05_Row.l0 k x n (pows x i) i = some (pows x n) := by
  induction d with
  | zero =>
    intro k i hd hk
    obtain ⟨k, rfl⟩ : ∃ m, k = m + 1 := ⟨k - 1, by omega⟩
    obtain rfl : i = n := by omega
    simp only [coldframeref05_Row.l0]
    rw [if_neg (by omega)]
  | succ d ih =>
    intro k i hd hk
    obtain ⟨k, rfl⟩ : ∃ m, k = m + 1 := ⟨k - 1, by omega⟩
    simp only [coldframeref05_Row.l0]
    rw [if_pos (by omega), ref_pow k x i hx (by omega) (by omega), bnd, if_pos (by rw [pows_len]; omega), vinc i (by omega), ← pows_succ]
    exact ih k (i + 1) (by omega) (by omega)
theorem rrow_neg (k : Nat) (x n : Int) (h : n ≤ 0) : coldframeref05_Row.l0 (k + 1) x n [] 0 = some [] := by
  simp only [coldframeref05_Row.l0]
  rw [if_neg (by omega)]
theorem rrow_f (x : Nat) (hx : x < 256) (n : Int) (hn : n ≤ 100) : coldframeref05_Row.f 400 x n = some (pows x n.toNat) := by
  unfold coldframeref05_Row.f
  by_cases h : 0 ≤ n
  · obtain ⟨n, rfl⟩ := Int.eq_ofNat_of_zero_le h
    exact rrow_loop x hx n (by omega) n 400 0 (by omega) (by omega)
  · have : n.toNat = 0 := by omega
    rw [this]
    exact rrow_neg 399 x n (by omega)
/-- A row of powers. -/
theorem row_calls (x : Nat) (hx : x < 256) (n : Int) (hn : n ≤ 100) (W : World) :
    Calls Try.prog 15 #[.int .u8 x, .int .i64 n] W fun e w' => ∃ A c, e = .returned (.slice A n.toNat c) ∧ Kd.R (Kd.int .u8) 5 w' W.heap.size (fun _ => True) (.slice A n.toNat c) (pows x n.toNat) ∧ Below W.heap.size W w' := by
  refine (vand_Row.calls 200 x n _ W (vrow_f x hx n hn)).mono ?_
  rintro e w' ⟨v, rfl, hr, hb⟩
  obtain ⟨A, c, rfl⟩ := Kd.R_slice hr
  rw [pows_len] at *
  exact ⟨A, c, rfl, hr, hb⟩
theorem refrow_calls (x : Nat) (hx : x < 256) (n : Int) (hn : n ≤ 100) (W : World) :
    Calls Try.prog 16 #[.int .u8 x, .int .i64 n] W fun e w' => ∃ A c, e = .returned (.slice A n.toNat c) ∧ Kd.R (Kd.int .u8) 5 w' W.heap.size (fun _ => True) (.slice A n.toNat c) (pows x n.toNat) ∧ Below W.heap.size W w' := by
  refine (coldframeref05_Row.calls 400 x n _ W (rrow_f x hx n hn)).mono ?_
  rintro e w' ⟨v, rfl, hr, hb⟩
  obtain ⟨A, c, rfl⟩ := Kd.R_slice hr
  rw [pows_len] at *
  exact ⟨A, c, rfl, hr, hb⟩
/-- The rows of the first k points. -/
def rowsL (f : Nat → Nat) (n k : Nat) : List (List Int) := (List.range k).map (fun i => pows (f i) n)
theorem rowsL_succ (f : Nat → Nat) (n k : Nat) : rowsL f n (k + 1) = rowsL f n k ++ [pows (f k) n] := by simp [rowsL, List.range_succ]
theorem rowsL_len (f : Nat → Nat) (n k : Nat) : (rowsL f n k).length = k := by simp [rowsL]
theorem rowsL_bytes (f : Nat → Nat) (n k : Nat) (hf : ∀ i, f i < 256) : AllBytes (rowsL f n k) := by
  intro l hl
  obtain ⟨i, _, rfl⟩ := List.mem_map.1 hl
  exact pows_bytes _ _ (hf i)
theorem rowsL_get (f : Nat → Nat) (n k i : Nat) (hi : i < k) : (rowsL f n k).getD i [] = pows (f i) n := by simp [rowsL, List.getD_eq_getElem?_getD, hi]
theorem rowsL_even (f : Nat → Nat) (n k : Nat) : ∀ l ∈ rowsL f n k, l.length = n := by
  intro l hl
  obtain ⟨i, _, rfl⟩ := List.mem_map.1 hl
  exact pows_len _ _
theorem rowsL_right (f : Nat → Nat) (n k : Nat) : RightP (rowsL f n k) ↔ 1 ≤ k ∧ k ≤ 64 ∧ 1 ≤ n ∧ n ≤ 64 := by
  constructor
  · intro h
    have h0 := h.r0
    have h1 := h.r1
    have h2 := h.c0
    have h3 := h.c1
    rw [rowsL_len] at h0 h1
    rw [rowsL_get f n k 0 (by omega), pows_len] at h2 h3
    omega
  · intro h
    have hl : ((rowsL f n k).getD 0 []).length = n := by rw [rowsL_get f n k 0 (by omega), pows_len]
    exact ⟨by rw [rowsL_len]; omega, by rw [rowsL_len]; omega, by rw [hl]; omega, by rw [hl]; omega, fun l hm => by rw [hl]; exact rowsL_even f n k l hm⟩

/-- One row more, appended, beside a block that is kept. -/
theorem rows_appendG {P : Program} {ops : Array Oper} {rest : List Oper} {o : Oper} {a : Act} {Q : Exit → Act → World → Prop} {w0 W wr : World} (hP : P = Try.prog) (base g0 : Nat) (hgd : o.guard = none) (s x : Operand)
    (ho : o.op = .call { callee := .builtin .append, args := #[s, x], argTypes := #[52, 52] }) (v : Value) (ls : List (List Int)) (ys : List Int) (u : Value)
    (hs : a.eval s = v) (hx : a.eval x = .slice (some ⟨W.heap.size, 0, none⟩) 1 1) (HR : Kd.R kRow 22 wr base (fun b => b ≠ g0) v ls) (hg0 : g0 < wr.heap.size) (HB : Below base w0 wr) (hbase : base ≤ wr.heap.size) (hB : Below wr.heap.size wr W)
    (hu : Kd.R (Kd.int .u8) 5 W wr.heap.size (fun _ => True) u ys) (hl : ls.length ≤ 1000000)
    (h : ∀ v1 w1, Kd.R kRow 22 w1 base (fun b => b ≠ g0) v1 (ls ++ [ys]) → Below base w0 w1 → W.grownBy w1 v.ownBlock → wpList P ops Q rest (a.put o.dst v1) w1) :
    wpList P ops Q (o :: rest) a (W.alloc (.cells #[u] 22)) := by
  subst hP
  have hM : kRow.M W base (fun k => wr.heap.size ≤ k) ys [u] := by
    refine ⟨u, rfl, ?_⟩
    have h1 := Kd.R_mono (Kd.R_bound hu) (ok' := fun k => wr.heap.size ≤ k) (fun k hk => hk.2.1)
    exact Kd.R_lower h1 hbase
  refine Kd.R_append kRow (w0 := w0) base hgd s x 52 22 (.slice none 0 0) 24 ho Try.underlying52 info_rows rfl (by decide) (by decide) v ls ys [u] (fun b => b ≠ g0)
    (fun k => wr.heap.size ≤ k) hs hx hM ?_ (fun k hk => by have := hB.size; omega) (Kd.R_below HR hB) ?_ (Nat.le_trans hbase hB.size) (by omega) (fun v1 w1 h1 h2 h3 _ => h v1 w1 h1 h2 h3)
  · intro k hk
    refine ⟨by omega, fun e => ?_⟩
    have := Kd.R_lt HR k e.symm
    omega
  · exact HB.trans (hB.mono hbase)

/-- The matrix of points: that one is there twice, or what Of tells of the rows. -/
def MatrixPost (f : Nat → Nat) (m : Nat) (n : Int) (w : World) (e : Ending) (w' : World) : Prop :=
  (((∃ k, k < m ∧ hit f k (f k) = true) ∨ ¬ (1 ≤ m ∧ m ≤ 64 ∧ 1 ≤ n ∧ n ≤ 64)) ∧ e = .returned (.tuple #[.pointer none, .int .i64 1]) ∧ Below w.heap.size w w') ∨
  ((∀ k, k < m → hit f k (f k) = false) ∧ (1 ≤ m ∧ m ≤ 64 ∧ 1 ≤ n ∧ n ≤ 64) ∧ ∃ b s cap, e = .returned (.tuple #[.pointer (some ⟨b, 0, none⟩), .int .i64 0]) ∧ MatIn w' b s m n.toNat cap (flat (rowsL f n.toNat m)) ∧ Below w.heap.size w w')
set_option maxRecDepth 100000 in
theorem matrix_wide (A : Option Addr) (c0 m : Nat) (n : Int) (w : World) (hn : 64 < n) :
    Calls Try.prog 17 #[.slice A m c0, .int .i64 n] w fun e w' => e = .returned (.tuple #[.pointer none, .int .i64 1]) ∧ Below w.heap.size w w' := by
  have hz := zero_256
  go_enter Try.func17, Try.ntmps17
  go_wp2
  repeat (go_quiet (fail); try go_wp2)
  go_ret2
  exact ⟨rfl, (by repeat (first | exact Below.refl _ _ | apply pw_below_drewN | refine Below.alloc ?_ (Nat.le_refl _) _))⟩
theorem of_rows (f : Nat → Nat) (hf : ∀ i, f i < 256) (n m : Nat) (A : Option Addr) (c : Nat) (w : World) (h : RowsC w A (rowsL f n m)) (hl : m ≤ c) (hm : m ≤ 100) :
    Calls Try.prog 33 #[.slice A m c] w fun e w' => (¬ (1 ≤ m ∧ m ≤ 64 ∧ 1 ≤ n ∧ n ≤ 64) ∧ e = .returned (.tuple #[.pointer none, .int .i64 1]) ∧ Below w.heap.size w w') ∨
      ((1 ≤ m ∧ m ≤ 64 ∧ 1 ≤ n ∧ n ≤ 64) ∧ ∃ b s cap, e = .returned (.tuple #[.pointer (some ⟨b, 0, none⟩), .int .i64 0]) ∧ MatIn w' b s m n cap (flat (rowsL f n m)) ∧ Below w.heap.size w w') := by
  have e1 : m = (rowsL f n m).length := (rowsL_len f n m).symm
  by_cases hr : 1 ≤ m ∧ m ≤ 64 ∧ 1 ≤ n ∧ n ≤ 64
  · have h1 := of_right A c (rowsL f n m) w w (Below.refl _ _) h ((rowsL_right f n m).2 hr) (rowsL_bytes f n m hf) (by rw [rowsL_len]; exact hl)
    have e2 : ((rowsL f n m).getD 0 []).length = n := by rw [rowsL_get f n m 0 (by omega), pows_len]
    rw [← e1, e2] at h1
    refine h1.mono ?_
    rintro e w' ⟨b, s, cap, rfl, hm, hb, _, _⟩
    exact .inr ⟨hr, b, s, cap, rfl, hm, hb⟩
  · have h1 := of_bad A c (rowsL f n m) w h (rowsL_bytes f n m hf) (by rw [rowsL_len]; exact hl) (by rw [rowsL_len]; omega) (fun hR => hr ((rowsL_right f n m).1 hR))
    rw [← e1] at h1
    refine h1.mono ?_
    rintro e w' ⟨rfl, hb⟩
    exact .inl ⟨hr, rfl, hb⟩

set_option maxRecDepth 100000 in
set_option maxHeartbeats 2000000 in
theorem matrix_walk (A : Option Addr) (c0 : Nat) (ps : List Int) (n : Int) (w : World) (hr : ReadsInt w .u8 A ps.length ps) (hb : Bytes ps) (hm : ps.length ≤ 100) (hn : n ≤ 64) :
    Calls Try.prog 17 #[.slice A ps.length c0, .int .i64 n] w (MatrixPost (fun i => (ps.getD i 0).toNat) ps.length n w) := by
  have hz := zero_256
  have t1 : decide (n > 64) = false := by simp; omega
  have t1' : ¬ (64 : Int) < n := by omega
  obtain ⟨f, hf⟩ : ∃ f : Nat → Nat, f = fun i => (ps.getD i 0).toNat := ⟨_, rfl⟩
  have hfb : ∀ i, f i < 256 := fun i => by have := hb.getD i; rw [hf]; show (ps.getD i 0).toNat < 256; omega
  have hfp : ∀ i, ps.getD i 0 = ((f i : Nat) : Int) := fun i => by have := hb.getD i; rw [hf]; show _ = (((ps.getD i 0).toNat : Nat) : Int); omega
  rw [← hf]
  have HR := Lib.hid hr
  have HF := Lib.hid hfb
  have HP := Lib.hid hfp
  have HN := Lib.hid hn
  obtain ⟨m, hmm⟩ : ∃ m, m = ps.length := ⟨_, rfl⟩
  rw [← hmm] at HR hm ⊢
  clear hf hfb hfp hr hb hmm hn
  go_enter Try.func17, Try.ntmps17
  go_upto_region 6 with (fail)
  repeat (go_quiet (fail); try go_upto_region 6 with (fail))
  clear hz t1 t1'
  have HB0 := Lib.hid (show Below w.heap.size w (w.alloc (.cells Z256 46)) from (Below.refl _ _).alloc (Nat.le_refl _) _)
  have HG0 := Lib.hid (show ∃ cs, Blk (w.alloc (.cells Z256 46)) w.heap.size 46 cs ∧ Seen f 0 cs from ⟨Z256, Blk.new _ _ _, seen0 f⟩)
  have HR0 := Lib.hid (Kd.R_nil kRow 22 (w.alloc (.cells Z256 46)) w.heap.size (fun b => b ≠ w.heap.size))
  go_loopw [7, 9, 14] (fun v7 _ i wr => ∃ (k : Nat), k ≤ m ∧ i = .int .i64 (k : Nat) ∧ Hid (∀ j, j < k → hit f j (f j) = false) ∧ Hid (Kd.R kRow 22 wr w.heap.size (fun b => b ≠ w.heap.size) v7 (rowsL f n.toNat k)) ∧ Hid (∃ cs, Blk wr w.heap.size 46 cs ∧ Seen f k cs) ∧ Hid (Below w.heap.size w wr)) (fun _ _ i _ => m - (intOf i).toNat)
  case atStart => exact ⟨0, by omega, rfl, Lib.hid (fun j hj => by omega), HR0, HG0, HB0⟩
  case round =>
    obtain ⟨k, hk, rfl, HD, HK, HG, HB⟩ := hrel
    clear HB0 HG0 HR0
    obtain ⟨A7, c7, rfl⟩ := Kd.R_slice HK.out
    by_cases hlt : k < m
    · obtain ⟨ad, eA, hcell⟩ := (HR.out.below HB.out).at_ (k : Int) (by omega) (by omega)
      subst eA
      have hc1 : wr.cell? (ad.add k) = some (.int .u8 (f k)) := by
        rw [← HP.out k]; simpa [rd] using hcell
      have hp := HF.out k
      obtain ⟨p, hpp⟩ : ∃ p, p = f k := ⟨_, rfl⟩
      rw [← hpp] at hp hc1
      obtain ⟨cs, hbk, hs⟩ := HG.out
      have hc := (hbk.cell p).trans (hs.2 p hp)
      have hfz := hbk.frozen p
      have HPP := Lib.hid hpp
      have HBL := Lib.hid hbk
      have HSN := Lib.hid hs
      have p0 : (0 : Int) ≤ (p : Int) := by omega
      have p1 : (p : Int) < 256 := by omega
      have p2 : ((p : Int)).toNat = p := by omega
      clear hpp hbk hs HG hcell
      by_cases hh : hit f k p = true
      · rw [hh] at hc
        have HH := Lib.hid hh
        clear hh
        go_wp2
        go_ret2
        exact .inl ⟨.inl ⟨k, hlt, by rw [← HPP.out]; exact HH.out⟩, rfl, HB.out⟩
      · rw [Bool.eq_false_iff.mpr hh] at hc
        have HH := Lib.hid (Bool.eq_false_iff.mpr hh)
        have HRS := Lib.hid (Kd.R_far HK.out (p := ⟨w.heap.size, p, none⟩) (fun b hb => hb) (.bool true))
        have HBS := Lib.hid (HB.out.setCell (p := ⟨w.heap.size, p, none⟩) (Nat.le_refl _) (.bool true))
        have HGS := Lib.hid (HBL.out.set_ p (.bool true))
        have HSZ := Lib.hid HB.out.size
        have HGL := Lib.hid HBL.out.lt
        have HN1 := Lib.hid (show n ≤ 100 by have := HN.out; omega)
        have HAW := Lib.hid (Kd.R_away HK.out (g := w.heap.size) (fun b hb => hb))
        have HPF := Lib.hid hp
        clear hh
        go_wp2_with (first
          | (go_at_call 15; (with_reducible refine (row_calls _ HPF.out _ HN1.out _).mono ?_); rintro e w1 ⟨A5, c5, rfl, hr5, hb5⟩; have HR5 := Lib.hid hr5; have HB5 := Lib.hid hb5; have HG5 := Lib.hid (HGS.out.below hb5 (by simpa using HGL.out)); clear hr5 hb5)
          | (at_builtin; refine rows_appendG (w0 := w) rfl w.heap.size w.heap.size rfl _ _ rfl _ (rowsL f n.toNat k) (pows p n.toNat) _ rfl rfl HRS.out (by simpa using HGL.out) HBS.out (by simpa using HSZ.out) HB5.out HR5.out (by rw [rowsL_len]; omega) ?_; intro v1 w2 h1 h2 h3; have HR1 := Lib.hid h1; have HB1 := Lib.hid h2; have HG1 := Lib.hid (HG5.out.grown h3 HAW.out); clear h1 h2 h3))
        go_roundw
        case rel => exact ⟨k + 1, by omega, by go_num, Lib.hid (fun j hj => by
            by_cases e : j < k
            · exact HD.out j e
            · obtain rfl : j = k := by omega
              rw [← HPP.out]; exact HH.out), by rw [rowsL_succ, ← HPP.out]; exact HR1, Lib.hid ⟨_, HG1.out, by rw [HPP.out]; exact seen_more f k cs HSN.out (by rw [← HPP.out]; exact HPF.out)⟩, HB1⟩
        case measure => simp [intOf]; omega
    · obtain rfl : k = m := by omega
      obtain ⟨hl7, hlc, hC7⟩ := Kd.R_reads' HK.out
      have hOF := of_rows f HF.out n.toNat k A7 c7 wr hC7 (by rw [rowsL_len] at hlc; exact hlc) hm
      have hlen := rowsL_len f n.toNat k
      rw [hlen]
      clear hC7 hl7 hlc hlen
      by_cases hg : 1 ≤ k ∧ k ≤ 64 ∧ 1 ≤ n.toNat ∧ n.toNat ≤ 64
      · have HOF := Lib.hid (hOF.mono (R' := fun e w' => ∃ b s cap, e = .returned (.tuple #[.pointer (some ⟨b, 0, none⟩), .int .i64 0]) ∧ MatIn w' b s k n.toNat cap (flat (rowsL f n.toNat k)) ∧ Below wr.heap.size wr w') (fun e w' h => h.elim (fun h => absurd hg h.1) (fun h => h.2)))
        have HG2 := Lib.hid (show 1 ≤ k ∧ k ≤ 64 ∧ 1 ≤ n ∧ n ≤ 64 by omega)
        clear hOF hg
        go_wp2_with (go_at_call 33; (with_reducible refine HOF.out.mono ?_); rintro e w1 ⟨b, s, cap, rfl, hmt, hb⟩; have HMT := Lib.hid hmt; have HBX := Lib.hid hb; clear hmt hb)
        go_ret2
        exact .inr ⟨HD.out, HG2.out, b, s, cap, rfl, HMT.out, HB.out.trans (HBX.out.mono HB.out.size)⟩
      · have HOF := Lib.hid (hOF.mono (R' := fun e w' => e = .returned (.tuple #[.pointer none, .int .i64 1]) ∧ Below wr.heap.size wr w') (fun e w' h => h.elim (fun h => h.2) (fun h => absurd h.1 hg)))
        have HG2 := Lib.hid (show ¬ (1 ≤ k ∧ k ≤ 64 ∧ 1 ≤ n ∧ n ≤ 64) by omega)
        clear hOF hg
        go_wp2_with (go_at_call 33; (with_reducible refine HOF.out.mono ?_); rintro e w1 ⟨rfl, hb⟩; have HBX := Lib.hid hb; clear hb)
        go_ret2
        exact .inl ⟨.inr HG2.out, rfl, HB.out.trans (HBX.out.mono HB.out.size)⟩
end Go.Proofs.Ytelgefkfflgbeaa.VRows
/- The statement VandRows, walked by hand. -/
namespace Go.Proofs.Ytelgefkfflgbeaa.VRows
open Go Go.RowKit Go.Proofs.Ytelgefkfflgbeaa.PVandRows Go.Proofs.Ytelgefkfflgbeaa.BVandRows Go.Proofs.Ytelgefkfflgbeaa.Gf Go.Proofs.Ytelgefkfflgbeaa.Bits Go.Proofs.Ytelgefkfflgbeaa.Mem Go.Proofs.Ytelgefkfflgbeaa.VPts Go.Proofs.Ytelgefkfflgbeaa.Mat Go.Proofs.YtelgefkfflgbeaaW.PrintWords Go.Proofs.YtelgefkfflgbeaaW.PrintLast
set_option linter.unusedVariables false

def Dup (f : Nat → Nat) (m : Nat) : Prop := ∃ k, k < m ∧ hit f k (f k) = true
theorem hit_iff (f : Nat → Nat) (y : Nat) : ∀ k, hit f k y = true ↔ ∃ q, q < k ∧ f q = y
  | 0 => by simp [hit]
  | k + 1 => by
    rw [hit_succ, Bool.or_eq_true, hit_iff f y k]
    constructor
    · rintro (⟨q, hq, e⟩ | e)
      · exact ⟨q, by omega, e⟩
      · exact ⟨k, by omega, by simpa using e⟩
    · rintro ⟨q, hq, e⟩
      by_cases h : q < k
      · exact .inl ⟨q, h, e⟩
      · obtain rfl : q = k := by omega
        exact .inr (by simpa using e)
theorem least (P : Nat → Prop) : ∀ m, (∃ k, k < m ∧ P k) → ∃ k, k < m ∧ P k ∧ ∀ j, j < k → ¬ P j
  | 0, ⟨k, hk, _⟩ => by omega
  | m + 1, ⟨k, hk, h⟩ => by
    by_cases hm : ∃ k, k < m ∧ P k
    · obtain ⟨k, hk, h, hl⟩ := least P m hm
      exact ⟨k, by omega, h, hl⟩
    · have : k = m := by
        rcases Nat.lt_or_ge k m with h' | h'
        · exact absurd ⟨k, h', h⟩ hm
        · omega
      subst this
      exact ⟨k, by omega, h, fun j hj hp => hm ⟨j, hj, hp⟩⟩
theorem rd_f {ps : List Int} {f : Nat → Nat} (hfp : ∀ i, ps.getD i 0 = ((f i : Nat) : Int)) (i : Nat) : rd ps (i : Int) = ((f i : Nat) : Int) := by rw [← hfp i]; simp [rd]
open Classical in
theorem twice_f (ps : List Int) (f : Nat → Nat) (hfp : ∀ i, ps.getD i 0 = ((f i : Nat) : Int)) (hl : ps.length ≤ 100) : PVandPoints.coldframeref05_Twice.f 90000 ps = some (decide (Dup f ps.length)) := by
  by_cases h : Dup f ps.length
  · rw [decide_eq_true h]
    obtain ⟨k, hk, hh, hlo⟩ := least _ _ h
    obtain ⟨q, hq, e⟩ := (hit_iff f (f k) k).1 hh
    refine BVandPoints.twice_yes ps (by omega) k hk (fun i hi q hq e => ?_) ⟨q, hq, ?_⟩ 90000 (Nat.le_refl _)
    · rw [rd_f hfp, rd_f hfp] at e
      exact hlo i hi ((hit_iff f (f i) i).2 ⟨q, hq, by omega⟩)
    · rw [rd_f hfp, rd_f hfp, e]
  · rw [decide_eq_false h]
    refine BVandPoints.twice_no ps (by omega) (fun i hi q hq e => ?_) 90000 (Nat.le_refl _)
    rw [rd_f hfp, rd_f hfp] at e
    exact h ⟨i, hi, (hit_iff f (f i) i).2 ⟨q, hq, by omega⟩⟩
theorem twice_t (ps : List Int) (f : Nat → Nat) (hfp : ∀ i, ps.getD i 0 = ((f i : Nat) : Int)) (hl : ps.length ≤ 100) (h : Dup f ps.length) : PVandPoints.coldframeref05_Twice.f 90000 ps = some true := by rw [twice_f ps f hfp hl]; simp [h]
theorem twice_n (ps : List Int) (f : Nat → Nat) (hfp : ∀ i, ps.getD i 0 = ((f i : Nat) : Int)) (hl : ps.length ≤ 100) (h : ¬ Dup f ps.length) : PVandPoints.coldframeref05_Twice.f 90000 ps = some false := by rw [twice_f ps f hfp hl]; simp [h]
theorem cell_at {w W : World} {ad : Addr} {m : Nat} {ps : List Int} {f : Nat → Nat} (hr : ReadsInt w .u8 (some ad) m ps) (hB : Below w.heap.size w W) (hfp : ∀ i, ps.getD i 0 = ((f i : Nat) : Int)) (k : Nat) (hk : k < m) : W.cell? (ad.add k) = some (.int .u8 (f k)) := by
  rw [← hfp k]
  exact reads_at (hr.below hB) k hk
theorem mrow (v : Value) (f : Nat → Nat) (n m i : Nat) (W : World) (h : IsMat W v m n (flat (rowsL f n m))) (hi : i < m) :
    Calls Try.prog 19 #[v, .int .i64 i] W fun e w' => ∃ A c, e = .returned (.slice A n c) ∧ Kd.R (Kd.int .u8) 5 w' W.heap.size (fun _ => True) (.slice A n c) (pows (f i) n) ∧ Below W.heap.size W w' := by
  have hpos : 0 < n := by obtain ⟨_, _, _, _, h⟩ := h; exact h.c0
  refine (row_in v m n _ i W h hi).mono ?_
  rintro e w' ⟨u, rfl, hu, hB⟩
  have e1 : rowOf n (flat (rowsL f n m)) i = pows (f i) n := by
    rw [rowOf_flat n _ (rowsL_even f n m) i (by rw [rowsL_len]; exact hi), rowsL_get f n m i hi]
  rw [e1] at hu
  obtain ⟨g, cap, rfl, _, _⟩ := hu.form hpos
  refine ⟨_, _, rfl, ?_, hB⟩
  refine Kd.R_of_own (enc := Value.int .u8) ?_ (fun _ _ => trivial)
  rw [pows_len]; exact hu
theorem matrix_no (A : Option Addr) (c0 : Nat) (ps : List Int) (n : Int) (w W : World) (hB : Below w.heap.size w W) (hr : ReadsInt w .u8 A ps.length ps) (hb : Bytes ps) (hm : ps.length ≤ 100)
    (h : ¬ (1 ≤ ps.length ∧ ps.length ≤ 64 ∧ 1 ≤ n ∧ n ≤ 64) ∨ Dup (fun i => (ps.getD i 0).toNat) ps.length) :
    Calls Try.prog 17 #[.slice A ps.length c0, .int .i64 n] W fun e w' => e = .returned (.tuple #[.pointer none, .int .i64 1]) ∧ Below W.heap.size W w' := by
  by_cases hn : 64 < n
  · exact matrix_wide A c0 ps.length n W hn
  · refine (matrix_walk A c0 ps n W (hr.below hB) hb hm (by omega)).mono ?_
    rintro e w' (⟨_, rfl, hb⟩ | ⟨h1, h2, _⟩)
    · exact ⟨rfl, hb⟩
    · rcases h with h | ⟨k, hk, hh⟩
      · exact absurd h2 h
      · rw [h1 k hk] at hh; cases hh
theorem matrix_yes (A : Option Addr) (c0 : Nat) (ps : List Int) (n : Int) (w W : World) (hB : Below w.heap.size w W) (hr : ReadsInt w .u8 A ps.length ps) (hb : Bytes ps) (hm : ps.length ≤ 100)
    (h : (1 ≤ ps.length ∧ ps.length ≤ 64 ∧ 1 ≤ n ∧ n ≤ 64)) (hd : ¬ Dup (fun i => (ps.getD i 0).toNat) ps.length) :
    Calls Try.prog 17 #[.slice A ps.length c0, .int .i64 n] W fun e w' => ∃ b s cap, e = .returned (.tuple #[.pointer (some ⟨b, 0, none⟩), .int .i64 0]) ∧ MatIn w' b s ps.length n.toNat cap (flat (rowsL (fun i => (ps.getD i 0).toNat) n.toNat ps.length)) ∧ Below W.heap.size W w' := by
  refine (matrix_walk A c0 ps n W (hr.below hB) hb hm (by omega)).mono ?_
  rintro e w' (⟨h1 | h1, _⟩ | ⟨_, _, h1⟩)
  · exact absurd h1 hd
  · exact absurd h h1
  · exact h1
theorem twice_calls (A : Option Addr) (c0 : Nat) (ps : List Int) (t : Bool) (w W : World) (hB : Below w.heap.size w W) (hr : ReadsInt w .u8 A ps.length ps) (hl : ps.length ≤ c0) (hf : PVandPoints.coldframeref05_Twice.f 90000 ps = some t) :
    Calls Try.prog 13 #[.slice A ps.length c0] W fun e w' => e = .returned (.bool t) ∧ Below W.heap.size W w' := by
  refine (PVandPoints.coldframeref05_Twice.calls 90000 A c0 ps t W (C_of_ints (hr.below hB)) hl hf).mono ?_
  rintro e w' ⟨rfl, h⟩
  exact ⟨rfl, h.below⟩
theorem isMatV {w : World} {b s r c cap : Nat} {xs : List Int} (h : MatIn w b s r c cap xs) : IsMat w (.pointer (some ⟨b, 0, none⟩)) r c xs := ⟨b, s, cap, rfl, h⟩
theorem sizeV (v : Value) (r c : Nat) (xs : List Int) (w : World) (h : IsMat w v r c xs) :
    Calls Try.prog 18 #[v] w fun e w' => e = .returned (.tuple #[.int .i64 r, .int .i64 c]) ∧ Below w.heap.size w w' := by
  refine (size_any v r c xs w h).mono ?_
  rintro e w' ⟨rfl, n, rfl⟩
  exact ⟨rfl, pw_below_drewN (Below.refl _ _) n⟩

section
variable (A : Option Addr) (c0 : Nat) (ps : List Int) (x : Nat) (n : Int) (w : World)
set_option maxRecDepth 100000 in
theorem vr_many (m : Nat) (h : 100 < m) :
    Calls Try.prog 5 #[.slice A m c0, .int .u8 x, .int .i64 n] w fun e w' => e = .returned (.bool true) ∧ Below w.heap.size w w' := by
  have HB := Lib.hid (Below.refl w.heap.size w)
  have h1 : (100 : Int) < (m : Int) := by omega
  go_enter Try.func5, Try.ntmps5
  go_wp2_with ((go_at_call 8; (with_reducible refine (awake_calls _).mono ?_); rintro e w1 ⟨rfl, hb⟩; have HBn := Lib.hid (HB.out.trans (hb.mono HB.out.size)); clear HB hb; have HB := HBn; clear HBn))
  go_ret
  exact ⟨rfl, HB.out⟩
set_option maxRecDepth 100000 in
theorem vr_wide (m : Nat) (h : m ≤ 100) (hn : 100 < n) :
    Calls Try.prog 5 #[.slice A m c0, .int .u8 x, .int .i64 n] w fun e w' => e = .returned (.bool true) ∧ Below w.heap.size w w' := by
  have HB := Lib.hid (Below.refl w.heap.size w)
  have h1 : ¬ (100 : Int) < (m : Int) := by omega
  go_enter Try.func5, Try.ntmps5
  go_wp2_with ((go_at_call 8; (with_reducible refine (awake_calls _).mono ?_); rintro e w1 ⟨rfl, hb⟩; have HBn := Lib.hid (HB.out.trans (hb.mono HB.out.size)); clear HB hb; have HB := HBn; clear HBn))
  go_ret
  exact ⟨rfl, HB.out⟩
set_option maxRecDepth 100000 in
set_option maxHeartbeats 2000000 in
theorem vr_no (hx : x < 256) (hr : ReadsInt w .u8 A ps.length ps) (hb : Bytes ps) (hl : ps.length ≤ c0) (hm : ps.length ≤ 100) (hn : n ≤ 100)
    (hh : n < 1 ∨ (¬ n < 1 ∧ 64 < n) ∨ (¬ n < 1 ∧ ¬ 64 < n ∧ ps.length < 1) ∨ (¬ n < 1 ∧ ¬ 64 < n ∧ ¬ ps.length < 1 ∧ 64 < ps.length) ∨ (¬ n < 1 ∧ ¬ 64 < n ∧ ¬ ps.length < 1 ∧ ¬ 64 < ps.length ∧ Dup (fun i => (ps.getD i 0).toNat) ps.length)) :
    Calls Try.prog 5 #[.slice A ps.length c0, .int .u8 x, .int .i64 n] w fun e w' => e = .returned (.bool true) ∧ Below w.heap.size w w' := by
  have HB := Lib.hid (Below.refl w.heap.size w)
  have hno : ¬ (1 ≤ ps.length ∧ ps.length ≤ 64 ∧ 1 ≤ n ∧ n ≤ 64) ∨ Dup (fun i => (ps.getD i 0).toNat) ps.length := by
    rcases hh with h | h | h | h | h
    · exact .inl (by omega)
    · exact .inl (by omega)
    · exact .inl (by omega)
    · exact .inl (by omega)
    · exact .inr h.2.2.2.2
  have MN := Lib.hid (fun W hB => matrix_no A c0 ps n w W hB hr hb hm hno)
  have hfp : ∀ i, ps.getD i 0 = ((((fun i => (ps.getD i 0).toNat) : Nat → Nat) i : Nat) : Int) := fun i => by have := hb.getD i; show _ = (((ps.getD i 0).toNat : Nat) : Int); omega
  have TW := Lib.hid (fun W hB (hd : Dup (fun i => (ps.getD i 0).toNat) ps.length) => twice_calls A c0 ps true w W hB hr hl (twice_t ps _ hfp hm hd))
  have RC := Lib.hid (fun W => row_calls x hx n hn W)
  have RR := Lib.hid (fun W => refrow_calls x hx n hn W)
  obtain ⟨m, hmm⟩ : ∃ m, m = ps.length := ⟨_, rfl⟩
  rw [← hmm] at MN TW hm hh ⊢
  have q0 : ¬ (100 : Int) < (m : Int) := by omega
  have q1 : ¬ (100 : Int) < n := by omega
  have key : ∀ {b : Bool}, True → True := fun _ => trivial
  have HD := Lib.hid hh
  clear hno hfp hr hb hl hmm hx hh
  go_enter Try.func5, Try.ntmps5
  go_upto_region 3 with (fail)
  go_cut [28] (fun v wc => v = .bool false ∧ Hid (Below w.heap.size w wc))
  case first =>
    go_region_with (first
      | (go_at_call 15; (with_reducible refine (RC.out _).mono ?_); rintro e w1 ⟨A5, c5, rfl, hr5, hb5⟩; have k5 := str_of hr5; have HR5 := Lib.hid hr5; have HB5 := Lib.hid hb5; clear hr5 hb5)
      | (go_at_call 16; (with_reducible refine (RR.out _).mono ?_); rintro e w2 ⟨A6, c6, rfl, hr6, hb6⟩; have k6 := str_of hr6; have k56 := str_of (Kd.R_below HR5.out hb6); have HB6 := Lib.hid hb6; clear hr6 hb6))
    all_goals
      go_wp2
      go_meet
      case rel => exact ⟨by simp, Lib.hid (by
        have h5 : Below w.heap.size w w1 := by first | exact HB5.out | exact below_of_drewN HB5.out
        have h6 : Below w1.heap.size w1 w2 := by first | exact HB6.out | exact below_of_drewN HB6.out
        exact h5.trans (h6.mono h5.size))⟩
  case rest =>
    obtain ⟨rfl, HBc⟩ := hcut
    clear HB RC RR
    have HB := HBc
    clear HBc
    have hd := HD.out
    clear HD
    rcases hd with d1 | ⟨d1, d2⟩ | ⟨d1, d2, d3⟩ | ⟨d1, d2, d3, d4⟩ | ⟨d1, d2, d3, d4, d5⟩
    case' inr.inr.inl => have e3 : (m : Int) < 1 := by omega
    case' inr.inr.inr.inl => have e3 : ¬ (m : Int) < 1 := by omega
    case' inr.inr.inr.inl => have e4 : (64 : Int) < (m : Int) := by omega
    case' inr.inr.inr.inr => have e3 : ¬ (m : Int) < 1 := by omega
    case' inr.inr.inr.inr => have e4 : ¬ (64 : Int) < (m : Int) := by omega
    case' inr.inr.inr.inr => have HDU := Lib.hid d5
    case' inr.inr.inr.inr => clear d5
    all_goals
      go_wp2_with (first
        | (go_at_call 8; (with_reducible refine (awake_calls _).mono ?_); rintro e w1 ⟨rfl, hb⟩; have HBn := Lib.hid (HB.out.trans (hb.mono HB.out.size)); clear HB hb; have HB := HBn; clear HBn)
        | (go_at_call 17; (with_reducible refine (MN.out _ HB.out).mono ?_); rintro e w1 ⟨rfl, hb⟩; have HBn := Lib.hid (HB.out.trans (hb.mono HB.out.size)); clear HB hb; have HB := HBn; clear HBn)
        | (go_at_call 13; (with_reducible refine (TW.out _ HB.out HDU.out).mono ?_); rintro e w1 ⟨rfl, hb⟩; have HBn := Lib.hid (HB.out.trans (hb.mono HB.out.size)); clear HB hb; have HB := HBn; clear HBn))
      go_ret
      exact ⟨rfl, HB.out⟩
set_option maxRecDepth 100000 in
set_option maxHeartbeats 2000000 in
theorem vr_yes (hx : x < 256) (hr : ReadsInt w .u8 A ps.length ps) (hb : Bytes ps) (hl : ps.length ≤ c0) (h1 : 1 ≤ ps.length) (hm : ps.length ≤ 64) (hn1 : 1 ≤ n) (hn : n ≤ 64) (hd : ¬ Dup (fun i => (ps.getD i 0).toNat) ps.length) :
    Calls Try.prog 5 #[.slice A ps.length c0, .int .u8 x, .int .i64 n] w fun e w' => e = .returned (.bool true) ∧ Below w.heap.size w w' := by
  have HB := Lib.hid (Below.refl w.heap.size w)
  have hfp : ∀ i, ps.getD i 0 = ((((fun i => (ps.getD i 0).toNat) : Nat → Nat) i : Nat) : Int) := fun i => by have := hb.getD i; show _ = (((ps.getD i 0).toNat : Nat) : Int); omega
  have hfb : ∀ i, ((fun i => (ps.getD i 0).toNat) : Nat → Nat) i < 256 := fun i => by have := hb.getD i; show (ps.getD i 0).toNat < 256; omega
  have MY := Lib.hid (fun W hB => matrix_yes A c0 ps n w W hB hr hb (by omega) ⟨h1, hm, hn1, hn⟩ hd)
  have TW := Lib.hid (fun W hB => twice_calls A c0 ps false w W hB hr hl (twice_n ps _ hfp (by omega) hd))
  have RC := Lib.hid (fun W => row_calls x hx n (by omega) W)
  have RR := Lib.hid (fun W => refrow_calls x hx n (by omega) W)
  obtain ⟨ad, eA, _⟩ := hr.at_ (0 : Int) (by omega) (by omega)
  subst eA
  obtain ⟨f, hf⟩ : ∃ f : Nat → Nat, f = fun i => (ps.getD i 0).toNat := ⟨_, rfl⟩
  rw [← hf] at MY hfp hfb
  have CE := Lib.hid (fun W hB k hk => cell_at (W := W) hr hB hfp k hk)
  have R2 := Lib.hid (fun k W => refrow_calls (f k) (hfb k) n (by omega) W)
  obtain ⟨q, hq⟩ : ∃ q : Nat, n = q := ⟨n.toNat, by omega⟩
  subst hq
  simp only [Int.toNat_natCast] at MY RC RR R2
  obtain ⟨m, hmm⟩ : ∃ m, m = ps.length := ⟨_, rfl⟩
  rw [← hmm] at MY TW CE hm h1 ⊢
  have MR := Lib.hid (fun v k W h hk => mrow v f q m k W h hk)
  have q0 : ¬ (100 : Int) < (m : Int) := by omega
  have q1 : ¬ (100 : Int) < (q : Int) := by omega
  have q2 : ¬ (q : Int) < 1 := by omega
  have q3 : ¬ (64 : Int) < (q : Int) := by omega
  have q4 : ¬ (m : Int) < 1 := by omega
  have q5 : ¬ (64 : Int) < (m : Int) := by omega
  clear hfp hfb hr hb hl hmm hx hf hd hn1 hn
  go_enter Try.func5, Try.ntmps5
  go_upto_region 3 with (fail)
  go_cut [28] (fun v wc => v = .bool false ∧ Hid (Below w.heap.size w wc))
  case first =>
    go_region_with (first
      | (go_at_call 15; (with_reducible refine (RC.out _).mono ?_); rintro e w1 ⟨A5, c5, rfl, hr5, hb5⟩; have k5 := str_of hr5; have HR5 := Lib.hid hr5; have HB5 := Lib.hid hb5; clear hr5 hb5)
      | (go_at_call 16; (with_reducible refine (RR.out _).mono ?_); rintro e w2 ⟨A6, c6, rfl, hr6, hb6⟩; have k6 := str_of hr6; have k56 := str_of (Kd.R_below HR5.out hb6); have HB6 := Lib.hid hb6; clear hr6 hb6))
    all_goals
      go_wp2
      go_meet
      case rel => exact ⟨by simp, Lib.hid (by
        have h5 : Below w.heap.size w w1 := by first | exact HB5.out | exact below_of_drewN HB5.out
        have h6 : Below w1.heap.size w1 w2 := by first | exact HB6.out | exact below_of_drewN HB6.out
        exact h5.trans (h6.mono h5.size))⟩
  case rest =>
    obtain ⟨rfl, HBc⟩ := hcut
    clear HB RC RR
    have HB := HBc
    clear HBc
    go_upto_region 12 with (first
        | (go_at_call 17; (with_reducible refine (MY.out _ HB.out).mono ?_); rintro e w1 ⟨b, s, cap, rfl, hmt, hb⟩; have HM := Lib.hid hmt; have HBn := Lib.hid (HB.out.trans (hb.mono HB.out.size)); clear HB hb hmt; have HB := HBn; clear HBn)
        | (go_at_call 13; (with_reducible refine (TW.out _ HB.out).mono ?_); rintro e w1 ⟨rfl, hb⟩; have HMn := Lib.hid (HM.out.below hb); clear HM; have HM := HMn; have HBn := Lib.hid (HB.out.trans (hb.mono HB.out.size)); clear HB hb HMn; have HB := HBn; clear HBn)
        | (go_at_call 18; (with_reducible refine (sizeV _ _ _ _ _ (isMatV HM.out)).mono ?_); rintro e w1 ⟨rfl, hb⟩; have HMn := Lib.hid (HM.out.below hb); clear HM; have HM := HMn; have HBn := Lib.hid (HB.out.trans (hb.mono HB.out.size)); clear HB hb HMn; have HB := HBn; clear HBn))
    clear MY TW
    go_loopw [11] (fun i wr => ∃ (k : Nat), k ≤ m ∧ i = .int .i64 (k : Nat) ∧ Hid (MatIn wr b s m q cap (flat (rowsL f q m))) ∧ Hid (Below w.heap.size w wr)) (fun i _ => m - (intOf i).toNat)
    case atStart => exact ⟨0, by omega, rfl, HM, HB⟩
    case round =>
      obtain ⟨k, hk, rfl, HK, HW⟩ := hrel
      clear HM HB
      by_cases hlt : k < m
      · have p0 : (0 : Int) ≤ (k : Int) := by omega
        have p1 : (k : Int) < (m : Int) := by omega
        have pc := CE.out _ HW.out k hlt
        have HLT := Lib.hid hlt
        have HI := Lib.hid (show IsMat wr.drew (.pointer (some ⟨b, 0, none⟩)) m q (flat (rowsL f q m)) from isMatV (HK.out.keep rfl rfl))
        have HI0 := Lib.hid (isMatV HK.out)
        go_upto_region 14 with (fail)
        go_cut [98] (fun v wc => v = .bool false ∧ Hid (MatIn wc b s m q cap (flat (rowsL f q m))) ∧ Hid (Below w.heap.size w wc))
        case first =>
          go_region_with (first
            | (go_at_call 19; (first | (with_reducible refine (MR.out _ _ _ HI0.out HLT.out).mono ?_) | (with_reducible refine (MR.out _ _ _ HI.out HLT.out).mono ?_)); rintro e w1 ⟨A5, c5, rfl, hr5, hb5⟩; have k5 := str_of hr5; have HR5 := Lib.hid hr5; have HB5 := Lib.hid (show Below wr.heap.size wr w1 from by first | exact hb5 | exact below_of_drewN hb5); have pc1 := CE.out _ (HW.out.trans (HB5.out.mono HW.out.size)) k HLT.out; clear hr5 hb5)
            | (go_at_call 16; (with_reducible refine (R2.out k _).mono ?_); rintro e w2 ⟨A6, c6, rfl, hr6, hb6⟩; have k6 := str_of hr6; have k56 := str_of (Kd.R_below HR5.out hb6); have HB6 := Lib.hid hb6; clear hr6 hb6))
          all_goals
            go_wp2
            go_meet
            case rel => exact ⟨by simp, by
              have h6 : Below w1.heap.size w1 w2 := by first | exact HB6.out | exact below_of_drewN HB6.out
              have h7 := HB5.out.trans (h6.mono HB5.out.size)
              exact ⟨Lib.hid (HK.out.below h7), Lib.hid (HW.out.trans (h7.mono HW.out.size))⟩⟩
        case rest =>
          obtain ⟨rfl, HKc, HWc⟩ := hcut
          go_wp2
          go_roundw
          case rel => exact ⟨k + 1, by omega, by go_num, HKc, HWc⟩
          case measure => simp [intOf]; omega
      · obtain rfl : k = m := by omega
        have HB := HW
        go_wp2_with ((go_at_call 8; (with_reducible refine (awake_calls _).mono ?_); rintro e w1 ⟨rfl, hb⟩; have HBn := Lib.hid (HB.out.trans (hb.mono HB.out.size)); clear HB hb; have HB := HBn; clear HBn))
        go_ret
        exact ⟨rfl, HB.out⟩
theorem vr_row {W : World} (A : Option Addr) (c0 : Nat) (ps : List Int) (hr : ReadsInt W .u8 A ps.length ps) (hw : ∀ z ∈ ps, (Lit.int .u8 z).wf = true) (hl : ps.length ≤ c0) (_ : ps.length * 1 ≤ reachBytes) (x : Int) (hx : (Lit.int .u8 x).wf = true) (n : Int) (_ : (Lit.int .i64 n).wf = true) :
    Calls Try.prog 5 #[.slice A ps.length c0, .int .u8 x, .int .i64 n] W fun e w' => e = .returned (.bool true) ∧ Below W.heap.size W w' := by
  have hb : Bytes ps := fun z hz => by
    have := hw z hz
    simp [Lit.wf, IntKind.min, IntKind.max, IntKind.signed, IntKind.bits] at this
    omega
  have hx2 : 0 ≤ x ∧ x < 256 := by
    simp [Lit.wf, IntKind.min, IntKind.max, IntKind.signed, IntKind.bits] at hx
    omega
  obtain ⟨x, rfl⟩ := Int.eq_ofNat_of_zero_le hx2.1
  by_cases h1 : 100 < ps.length
  · exact vr_many A c0 x n W ps.length h1
  · by_cases h2 : 100 < n
    · exact vr_wide A c0 x n W ps.length (by omega) h2
    · by_cases hd : Dup (fun i => (ps.getD i 0).toNat) ps.length
      · exact vr_no A c0 ps x n W (by omega) hr hb hl (by omega) (by omega) (by
          by_cases e1 : n < 1
          · exact .inl e1
          by_cases e2 : 64 < n
          · exact .inr (.inl ⟨e1, e2⟩)
          by_cases e3 : ps.length < 1
          · exact .inr (.inr (.inl ⟨e1, e2, e3⟩))
          by_cases e4 : 64 < ps.length
          · exact .inr (.inr (.inr (.inl ⟨e1, e2, e3, e4⟩)))
          exact .inr (.inr (.inr (.inr ⟨e1, e2, e3, e4, hd⟩))))
      · by_cases hg : 1 ≤ ps.length ∧ ps.length ≤ 64 ∧ 1 ≤ n ∧ n ≤ 64
        · exact vr_yes A c0 ps x n W (by omega) hr hb hl hg.1 hg.2.1 hg.2.2.1 hg.2.2.2 hd
        · exact vr_no A c0 ps x n W (by omega) hr hb hl (by omega) (by omega) (by omega)
end
end Go.Proofs.Ytelgefkfflgbeaa.VRows
/- Fields in which twice a thing is nought; finite sums. -/
namespace Go.Proofs.Ytelgefkfflgbeaa.Alg

/-- A field in which twice a thing is nought. -/
class Fd (F : Type) extends Add F, Mul F, Zero F, One F where
  add_assoc : ∀ a b c : F, a + b + c = a + (b + c)
  add_comm : ∀ a b : F, a + b = b + a
  add_zero : ∀ a : F, a + 0 = a
  add_self : ∀ a : F, a + a = 0
  mul_assoc : ∀ a b c : F, a * b * c = a * (b * c)
  mul_comm : ∀ a b : F, a * b = b * a
  mul_one : ∀ a : F, a * 1 = a
  mul_add : ∀ a b c : F, a * (b + c) = a * b + a * c
  inv : F → F
  mul_inv : ∀ a : F, a ≠ 0 → a * inv a = 1
  zero_ne_one : (0 : F) ≠ 1

section
variable {F : Type} [Fd F]
open _root_.Go.Proofs.Ytelgefkfflgbeaa.Alg.Fd
theorem zero_add (a : F) : 0 + a = a := by rw [add_comm, add_zero]
theorem add_left_comm (a b c : F) : a + (b + c) = b + (a + c) := by rw [← add_assoc, add_comm a b, add_assoc]
theorem mul_left_comm (a b c : F) : a * (b * c) = b * (a * c) := by rw [← mul_assoc, mul_comm a b, mul_assoc]
theorem add_mul (a b c : F) : (a + b) * c = a * c + b * c := by rw [mul_comm, mul_add, mul_comm c a, mul_comm c b]
theorem one_mul (a : F) : 1 * a = a := by rw [mul_comm, mul_one]
theorem add_cancel (a b : F) : a + (a + b) = b := by rw [← add_assoc, add_self, zero_add]
theorem add_left_cancel {a b c : F} (h : a + b = a + c) : b = c := by rw [← add_cancel a b, h, add_cancel]
theorem add_right_cancel {a b c : F} (h : a + c = b + c) : a = b := add_left_cancel (a := c) (by rw [add_comm c a, add_comm c b, h])
theorem mul_zero (a : F) : a * 0 = 0 := by
  have h : a * (0 + 0) = a * 0 + a * 0 := mul_add a 0 0
  rw [add_zero] at h
  have h2 : a * 0 + 0 = a * 0 + a * 0 := by rw [add_zero]; exact h
  exact (add_left_cancel h2).symm
theorem zero_mul (a : F) : 0 * a = 0 := by rw [mul_comm, mul_zero]
theorem eq_of_add_zero {a b : F} (h : a + b = 0) : a = b := add_right_cancel (c := b) (by rw [h, add_self])
theorem add_eq_zero {a b : F} : a + b = 0 ↔ a = b := ⟨eq_of_add_zero, fun h => by rw [h, add_self]⟩
theorem inv_mul (a : F) (h : a ≠ 0) : inv a * a = 1 := by rw [mul_comm, mul_inv a h]
theorem mul_ne_zero {a b : F} (ha : a ≠ 0) (hb : b ≠ 0) : a * b ≠ 0 := by
  intro h
  apply hb
  have : inv a * (a * b) = b := by rw [← mul_assoc, inv_mul a ha, one_mul]
  rw [← this, h, mul_zero]
theorem mul_eq_zero {a b : F} (h : a * b = 0) : a = 0 ∨ b = 0 := by
  by_cases ha : a = 0
  · exact .inl ha
  · by_cases hb : b = 0
    · exact .inr hb
    · exact absurd h (mul_ne_zero ha hb)
theorem mul_left_cancel {a b c : F} (ha : a ≠ 0) (h : a * b = a * c) : b = c := by
  have hb : inv a * (a * b) = b := by rw [← mul_assoc, inv_mul a ha, one_mul]
  have hc : inv a * (a * c) = c := by rw [← mul_assoc, inv_mul a ha, one_mul]
  rw [← hb, h, hc]
theorem inv_ne_zero {a : F} (ha : a ≠ 0) : inv a ≠ 0 := by
  intro h
  have := mul_inv a ha
  rw [h, mul_zero] at this
  exact zero_ne_one this
theorem inv_unique {a b : F} (h : a * b = 1) : b = inv a := by
  have ha : a ≠ 0 := by intro e; rw [e, zero_mul] at h; exact zero_ne_one h
  exact mul_left_cancel ha (by rw [h, mul_inv a ha])

/-- The sum of the first n. -/
def sum : Nat → (Nat → F) → F
  | 0, _ => 0
  | n + 1, f => sum n f + f n
theorem sum_congr {n : Nat} {f g : Nat → F} (h : ∀ i, i < n → f i = g i) : sum n f = sum n g := by
  induction n with
  | zero => rfl
  | succ n ih => rw [sum, sum, ih (fun i hi => h i (by omega)), h n (by omega)]
theorem sum_zero (n : Nat) : sum n (fun _ => (0 : F)) = 0 := by
  induction n with
  | zero => rfl
  | succ n ih => rw [sum, ih, add_zero]
theorem sum_zero' {n : Nat} {f : Nat → F} (h : ∀ i, i < n → f i = 0) : sum n f = 0 := by rw [sum_congr h, sum_zero]
theorem sum_add (n : Nat) (f g : Nat → F) : sum n (fun i => f i + g i) = sum n f + sum n g := by
  induction n with
  | zero => simp only [sum]; rw [add_zero]
  | succ n ih =>
    simp only [sum]
    rw [ih, add_assoc, add_assoc, add_left_comm (sum n g)]
theorem mul_sum (n : Nat) (a : F) (f : Nat → F) : a * sum n f = sum n (fun i => a * f i) := by
  induction n with
  | zero => simp only [sum]; rw [mul_zero]
  | succ n ih => simp only [sum]; rw [mul_add, ih]
theorem sum_mul (n : Nat) (a : F) (f : Nat → F) : sum n f * a = sum n (fun i => f i * a) := by
  rw [mul_comm, mul_sum]
  exact sum_congr (fun i _ => mul_comm _ _)
theorem sum_comm (m n : Nat) (f : Nat → Nat → F) : sum m (fun i => sum n (fun j => f i j)) = sum n (fun j => sum m (fun i => f i j)) := by
  induction m with
  | zero => simp only [sum]; rw [sum_zero]
  | succ m ih => simp only [sum]; rw [ih, sum_add]
theorem sum_single {n : Nat} {f : Nat → F} (k : Nat) (hk : k < n) (h : ∀ i, i < n → i ≠ k → f i = 0) : sum n f = f k := by
  induction n with
  | zero => omega
  | succ n ih =>
    rw [sum]
    by_cases e : k = n
    · subst e
      rw [sum_zero' (fun i hi => h i (by omega) (by omega)), zero_add]
    · rw [ih (by omega) (fun i hi hne => h i (by omega) hne), h n (by omega) (by omega), add_zero]
theorem sum_front (n : Nat) (f : Nat → F) : sum (n + 1) f = f 0 + sum n (fun i => f (i + 1)) := by
  induction n with
  | zero => simp only [sum]; rw [zero_add, add_zero]
  | succ n ih => rw [sum, ih, sum, add_assoc]
theorem sum_split (m n : Nat) (f : Nat → F) : sum (m + n) f = sum m f + sum n (fun i => f (m + i)) := by
  induction n with
  | zero => simp only [sum]; rw [add_zero]; rfl
  | succ n ih => rw [← Nat.add_assoc, sum, ih, sum, add_assoc]

/-- Products may be taken together in any way. -/
theorem prod_assoc (n m : Nat) (x : Nat → F) (y : Nat → Nat → F) (z : Nat → F) :
    sum m (fun l => sum n (fun j => x j * y j l) * z l) = sum n (fun j => x j * sum m (fun l => y j l * z l)) := by
  have h1 : ∀ l, sum n (fun j => x j * y j l) * z l = sum n (fun j => x j * (y j l * z l)) := by
    intro l
    rw [sum_mul]
    exact sum_congr (fun j _ => mul_assoc _ _ _)
  rw [sum_congr (fun l _ => h1 l), sum_comm]
  exact sum_congr (fun j _ => (mul_sum _ _ _).symm)
end
end Go.Proofs.Ytelgefkfflgbeaa.Alg
/- The field of 256 elements as a field; bytes told as its elements. -/
namespace Go.Proofs.Ytelgefkfflgbeaa.Alg
open Gf

/-- An element. -/
structure G where
  val : Nat
  lt : val < 256
theorem G.ext' {a b : G} (h : a.val = b.val) : a = b := by
  cases a; cases b; cases h; rfl
instance : DecidableEq G := fun a b => if h : a.val = b.val then isTrue (G.ext' h) else isFalse (fun e => h (by rw [e]))
theorem xor_lt' {a b : Nat} (ha : a < 256) (hb : b < 256) : a ^^^ b < 256 := by
  have : a ^^^ b < 2 ^ 8 := Nat.xor_lt_two_pow ha hb
  simpa using this
instance : Fd G where
  add a b := ⟨a.val ^^^ b.val, xor_lt' a.lt b.lt⟩
  mul a b := ⟨gm a.val b.val, gm_lt _ _ a.lt⟩
  zero := ⟨0, by decide⟩
  one := ⟨1, by decide⟩
  inv a := ⟨ginv a.val, ginv_lt _ a.lt⟩
  add_assoc a b c := G.ext' (Nat.xor_assoc _ _ _)
  add_comm a b := G.ext' (Nat.xor_comm _ _)
  add_zero a := G.ext' (Nat.xor_zero _)
  add_self a := G.ext' (Nat.xor_self _)
  mul_assoc a b c := G.ext' (gm_assoc _ _ _ a.lt b.lt c.lt)
  mul_comm a b := G.ext' (gm_comm _ _ a.lt b.lt)
  mul_one a := G.ext' (gm_one _)
  mul_add a b c := G.ext' (gm_xor_right _ _ _)
  mul_inv a h := G.ext' (gm_inv _ a.lt (fun e => h (G.ext' e)))
  zero_ne_one h := absurd (congrArg G.val h) (by decide)
/-- A byte's element; an element's byte. -/
def G.of (x : Int) : G := ⟨x.toNat % 256, Nat.mod_lt _ (by decide)⟩
def G.int (g : G) : Int := (g.val : Int)
theorem G.of_int (g : G) : G.of g.int = g := G.ext' (by have := g.lt; simp [G.of, G.int]; omega)
theorem G.int_of (x : Int) (h : 0 ≤ x ∧ x < 256) : (G.of x).int = x := by simp [G.of, G.int]; omega
theorem G.int_range (g : G) : 0 ≤ g.int ∧ g.int < 256 := by have := g.lt; unfold G.int; omega
theorem G.int_inj {a b : G} (h : a.int = b.int) : a = b := by rw [← G.of_int a, h, G.of_int]
theorem G.of_inj {x y : Int} (hx : 0 ≤ x ∧ x < 256) (hy : 0 ≤ y ∧ y < 256) (h : G.of x = G.of y) : x = y := by rw [← G.int_of x hx, h, G.int_of y hy]
theorem G.of_zero : G.of 0 = 0 := rfl
theorem G.of_one : G.of 1 = 1 := rfl
theorem G.int_zero : (0 : G).int = 0 := rfl
theorem G.int_one : (1 : G).int = 1 := rfl
end Go.Proofs.Ytelgefkfflgbeaa.Alg
/- What the product of two matrices comes to. -/
namespace Go.Proofs.Ytelgefkfflgbeaa.Mat
open Go Go.RowKit Go.Proofs.Ytelgefkfflgbeaa.Mem Go.Proofs.Ytelgefkfflgbeaa.Bits Go.Proofs.Ytelgefkfflgbeaa.Gf Go.Proofs.YtelgefkfflgbeaaW.PrintWords
set_option linter.unusedVariables false

/-- A matrix filled: k elements of row i, set into ys .. -/
def fillRow (c : Nat) (f : Nat → Nat → Int) (i : Nat) : Nat → List Int → List Int
  | 0, ys => ys
  | k + 1, ys => (fillRow c f i k ys).set (i * c + k) (f i k)
/-- .. and i rows. -/
def fillTo (r c : Nat) (f : Nat → Nat → Int) : Nat → List Int
  | 0 => List.replicate (r * c) 0
  | i + 1 => fillRow c f i c (fillTo r c f i)

theorem cell_far {w : World} {p q : Addr} {v : Value} (h : q.block ≠ p.block) (u : Value) (hc : w.cell? q = some v) : (w.setCell p u).cell? q = some v := by
  rw [World.cell?_setCell_other w p q u (fun e => h (by rw [e]))]; exact hc
/-- The elements of a product. -/
def prodAt (n : Nat) (xs zs : List Int) (i k : Nat) : Int := dotTo (rowOf n xs i) (rowOf n zs k) n

set_option maxRecDepth 100000 in
theorem mul_nil_l (v : Value) (hv : ∃ p, v = .pointer p) (w : World) :
    Calls Try.prog 21 #[.pointer none, v] w fun e w' => e = .returned (.tuple #[.pointer none, .int .i64 1]) ∧ ∃ n, w' = w.drewN n := by
  obtain ⟨p, rfl⟩ := hv
  go_enter Try.func21, Try.ntmps21
  go_wp2
  go_quiet (fail)
  go_wp2
  go_ret2
  exact ⟨rfl, _, rfl⟩
set_option maxRecDepth 100000 in
theorem mul_nil_r (a : Addr) (w : World) :
    Calls Try.prog 21 #[.pointer (some a), .pointer none] w fun e w' => e = .returned (.tuple #[.pointer none, .int .i64 1]) ∧ ∃ n, w' = w.drewN n := by
  go_enter Try.func21, Try.ntmps21
  go_wp2
  go_quiet (fail)
  go_wp2
  go_ret2
  exact ⟨rfl, _, rfl⟩
set_option maxRecDepth 100000 in
theorem mul_bad (v u : Value) (r c r' c' : Nat) (xs ys : List Int) (w : World) (h : IsMat w v r c xs) (h' : IsMat w u r' c' ys) (hne : c ≠ r') :
    Calls Try.prog 21 #[v, u] w fun e w' => e = .returned (.tuple #[.pointer none, .int .i64 1]) ∧ ∃ n, w' = w.drewN n := by
  obtain ⟨b, s, cap, rfl, h⟩ := h
  obtain ⟨b', s', cap', rfl, h'⟩ := h'
  obtain ⟨m0, m1, m2⟩ := h.cells
  obtain ⟨n0, n1, n2⟩ := h'.cells
  have hd : ((c : Int) != (r' : Int)) = true := by simp; omega
  clear h h' hne
  go_enter Try.func21, Try.ntmps21
  go_wp2
  go_quiet (fail)
  go_wp2
  go_ret2
  exact ⟨rfl, _, rfl⟩

theorem mid_of (w : World) (b s r c cap : Nat) (xs : List Int) (h : MatIn w b s r c cap xs) (i : Nat) (hi : i < r) (q p p2 : Nat) (hq : q = r * c) (hp : p = i * c) (hp2 : p2 = (i + 1) * c) :
    (∀ W : World, (Instr.slice 22 (.slice (some ⟨s, 0, none⟩) q cap) (some (.int .i64 (p : Int))) (some (.int .i64 (p2 : Int))) none).run Try.prog W = .ok (.slice (some ⟨s, p, none⟩) c (cap - p)) W) ∧
    ReadsInt w .u8 (some ⟨s, p, none⟩) c (rowOf c xs i) ∧ Bytes (rowOf c xs i) ∧ IntKind.i64.wrap ((i : Int) * (c : Int)) = (p : Int) ∧ IntKind.i64.wrap ((i : Int) + 1) = (i : Int) + 1 ∧
    IntKind.i64.wrap (((i : Int) + 1) * (c : Int)) = (p2 : Int) := by
  subst hq; subst hp; subst hp2
  have hrc := h.rc
  have hle : (i + 1) * c ≤ r * c := Nat.mul_le_mul_right c hi
  have hlt : i * c < (i + 1) * c := by rw [Nat.add_mul]; have := h.c0; omega
  obtain ⟨kc, hr⟩ := mid_cut s cap (r * c) xs (i * c) ((i + 1) * c) h.len hlt hle h.capLe
  have hR := hr w (by have := h.reads; rwa [h.len] at this)
  have hd : (i + 1) * c - i * c = c := by rw [Nat.add_mul]; omega
  rw [hd] at kc
  change ReadsInt w .u8 _ (rowOf c xs i).length (rowOf c xs i) at hR
  rw [rowOf_len h.len i hi] at hR
  refine ⟨kc, hR, (h.byt.take _).drop _, ?_, IntWalk.i64_in _ (by have := h.r1; omega), ?_⟩
  · rw [← Int.natCast_mul]; exact IntWalk.i64_in _ (by omega)
  · rw [show ((i : Int) + 1) = ((i + 1 : Nat) : Int) by omega, ← Int.natCast_mul]; exact IntWalk.i64_in _ (by omega)

set_option maxRecDepth 100000 in
set_option maxHeartbeats 2000000 in
theorem mul_good (v u : Value) (r n c : Nat) (xs ys : List Int) (w : World) (h : IsMat w v r n xs) (h' : IsMat w u n c ys) :
    Calls Try.prog 21 #[v, u] w fun e w' => ∃ b s cap, e = .returned (.tuple #[.pointer (some ⟨b, 0, none⟩), .int .i64 0]) ∧ MatIn w' b s r c cap (fillTo r c (prodAt n xs (turnTo n c ys n)) r) ∧ Below w.heap.size w w' ∧ w.heap.size ≤ b ∧ w.heap.size ≤ s := by
  obtain ⟨ba, sa, capa, rfl, ha⟩ := h
  have hU := h'
  obtain ⟨bb, sb, capb, rfl, hb⟩ := h'
  obtain ⟨a0, a1, a2⟩ := ha.cells
  obtain ⟨b0, b1, b2⟩ := hb.cells
  have hd : ((n : Int) != (n : Int)) = false := by simp
  have hr64 := ha.r1
  have hn64 := ha.c1
  have hc64 := hb.c1
  obtain ⟨q, hq⟩ : ∃ q, q = r * c := ⟨_, rfl⟩
  have hqle : q ≤ 4096 := by rw [hq]; exact Nat.le_trans (Nat.mul_le_mul hr64 hc64) (by decide)
  have e0 : IntKind.i64.wrap ((r : Int) * (c : Int)) = (q : Int) := by
    rw [← Int.natCast_mul, ← hq]; exact IntWalk.i64_in _ (by omega)
  have km := print_make (P := Try.prog) 22 5 .u8 1 Try.underlying22 info_u8 (by decide) q (by omega)
  have HMM := Lib.hid (fun w => mat_made w r c q hq ha.r0 hb.c0 hr64 hc64)
  have HQ := Lib.hid hq
  have HU := Lib.hid hU
  have HA := Lib.hid ha
  have HBb := Lib.hid hb
  obtain ⟨zs, hzs⟩ : ∃ zs, zs = turnTo n c ys n := ⟨_, rfl⟩
  rw [← hzs]
  have HZS := Lib.hid hzs
  clear hq ha hb hU a2 b2 hzs
  go_enter Try.func21, Try.ntmps21
  go_wp2
  go_quiet (fail)
  go_wp2
  clear hd
  go_cut [6] (fun v6 wc => ∃ b2 s2, v6 = .pointer (some ⟨b2, 0, none⟩) ∧ Hid (MatIn wc b2 s2 r c q (List.replicate q 0)) ∧ Hid (Below w.heap.size w wc) ∧ w.heap.size ≤ b2 ∧ w.heap.size ≤ s2)
  case first =>
    go_region_held3 (fun W => W.cell? ⟨ba, 0, none⟩ = some (.int .i64 r) ∧ W.cell? ⟨bb, 1, none⟩ = some (.int .i64 c)) (go_keep) (fail)
    all_goals
      go_wp2
      go_meet
      case rel => exact ⟨_, _, rfl, Lib.hid (HMM.out (w.drewN _)), Lib.hid (((pw_below_drewN (Below.refl _ _) _).alloc (Nat.le_refl _) _).alloc (by simp) _), Nat.le_succ _, Nat.le_refl _⟩
  case rest =>
    obtain ⟨bo, so, rfl, HM, HB, hbo, hso⟩ := hcut
    clear km HMM e0 a0 a1 b0 b1
    have HUc := Lib.hid (show IsMat wc (.pointer (some ⟨bb, 0, none⟩)) n c ys from HU.out.below HB.out)
    clear HU
    go_wp2_with (go_at_call 37; refine (turned_any _ _ _ _ _ HUc.out).mono ?_; rintro e w1 ⟨bt, st, capt, rfl, hT, hB1, hbt, hst⟩; have HT := Lib.hid hT; have HB1 := Lib.hid hB1; clear hT hB1; have a0 := ((HB1.out.cell (p := ⟨ba, 0, none⟩) (Nat.lt_of_lt_of_le HA.out.blk.lt HB.out.size)).trans (HB.out.cell (p := ⟨ba, 0, none⟩) HA.out.blk.lt)).trans HA.out.cells.1)
    have HBx := Lib.hid (show Below w.heap.size w w1 from HB.out.trans (HB1.out.mono HB.out.size))
    have HM1 := Lib.hid (HM.out.below HB1.out)
    have hgeb := Lib.hid (show wc.heap.size ≤ bt from hbt)
    have hges := Lib.hid (show wc.heap.size ≤ st from hst)
    have hlb := Lib.hid (HM.out.blk.lt)
    have hls := Lib.hid (HM.out.slt)
    clear HB HM HUc hbt hst
    have hnbt := Lib.hid (show bt ≠ so by have := hgeb.out; have := hls.out; omega)
    have hnst := Lib.hid (show st ≠ so by have := hges.out; have := hls.out; omega)
    have hna := Lib.hid (show ba ≠ so by have := HA.out.blk.lt; omega)
    have hnb := Lib.hid (show bb ≠ so by have := HBb.out.blk.lt; omega)
    have hno := Lib.hid (show bo ≠ so from HM1.out.ne)
    clear hgeb hges hlb hls
    rw [← HZS.out] at HT
    have HM0 := Lib.hid (show MatIn w1 bo so r c q (fillTo r c (prodAt n xs zs) 0) by rw [fillTo, ← HQ.out]; exact HM1.out)
    clear HM1
    go_loopw [8, 53] (fun _ i wr => ∃ (k : Nat), k ≤ r ∧ i = .int .i64 k ∧ Hid (MatIn wr bo so r c q (fillTo r c (prodAt n xs zs) k)) ∧ Hid (MatIn wr bt st c n capt zs) ∧ Hid (Below w.heap.size w wr)) (fun _ i _ => r - (intOf i).toNat)
    case atStart => exact ⟨0, by omega, rfl, HM0, HT, HBx⟩
    case round =>
      obtain ⟨i, hi, rfl, HK, HTk, HW⟩ := hrel
      clear HM0 HT HBx a0
      by_cases hlt : i < r
      · have b1 := (HW.out.cell (p := ⟨bb, 1, none⟩) HBb.out.blk.lt).trans HBb.out.cells.2.1
        go_wp2
        obtain ⟨wo, hwo⟩ : ∃ wo : World, wo = wr := ⟨_, rfl⟩
        go_loopw [9, 60] (fun _ j wr => ∃ (k : Nat), k ≤ c ∧ j = .int .i64 k ∧ Hid (MatIn wr bo so r c q (fillRow c (prodAt n xs zs) i k (fillTo r c (prodAt n xs zs) i))) ∧ Hid (MatIn wr bt st c n capt zs) ∧ Hid (Below w.heap.size w wr)) (fun _ j _ => c - (intOf j).toNat)
        case atStart => exact ⟨0, by omega, rfl, HK, HTk, HW⟩
        case round =>
          obtain ⟨k, hk, rfl, HK2, HT2, HW2⟩ := hrel
          clear HK HTk HW b1
          by_cases hlk : k < c
          · have hA2 := HA.out.keep (HW2.out.block ba HA.out.blk.lt) (HW2.out.block sa HA.out.slt)
            have hB2 := HBb.out.keep (HW2.out.block bb HBb.out.blk.lt) (HW2.out.block sb HBb.out.slt)
            obtain ⟨a0, a1, a2⟩ := hA2.cells
            obtain ⟨b0, b1, _⟩ := hB2.cells
            obtain ⟨_, _, t2⟩ := HT2.out.cells
            obtain ⟨_, _, o2⟩ := HK2.out.cells
            obtain ⟨qa, hqa⟩ : ∃ q, q = r * n := ⟨_, rfl⟩
            obtain ⟨qt, hqt⟩ : ∃ q, q = c * n := ⟨_, rfl⟩
            obtain ⟨pa, hpa⟩ : ∃ p, p = i * n := ⟨_, rfl⟩
            obtain ⟨pa2, hpa2⟩ : ∃ p, p = (i + 1) * n := ⟨_, rfl⟩
            obtain ⟨pt, hpt⟩ : ∃ p, p = k * n := ⟨_, rfl⟩
            obtain ⟨pt2, hpt2⟩ : ∃ p, p = (k + 1) * n := ⟨_, rfl⟩
            obtain ⟨po, hpo⟩ : ∃ p, p = i * c := ⟨_, rfl⟩
            obtain ⟨ka, ra, ba1, ea1, ea2, ea3⟩ := mid_of wr ba sa r n capa xs hA2 i hlt qa pa pa2 hqa hpa hpa2
            obtain ⟨kt, rt, bt1, et1, et2, et3⟩ := mid_of wr bt st c n capt zs HT2.out k hlk qt pt pt2 hqt hpt hpt2
            have hbo := idx_lt hlt hlk
            obtain ⟨ox, of⟩ := HK2.out.elem _ hbo
            have hdr := dotTo_range (rowOf n xs i) (rowOf n zs k) ba1 n
            have hHN := fun m => (HK2.out.drewN m).store (i * c + k) (prodAt n xs zs i k) hdr.1 hdr.2
            have hHT := fun m => (HT2.out.drewN m).far (p := ⟨so, i * c + k, none⟩) hnbt.out hnst.out (.int .u8 (prodAt n xs zs i k))
            have hHV := fun m => (pw_below_drewN HW2.out m).setCell (p := ⟨so, i * c + k, none⟩) hso (.int .u8 (prodAt n xs zs i k))
            change ∀ m, MatIn _ bo so r c q (fillRow c (prodAt n xs zs) i (k + 1) (fillTo r c (prodAt n xs zs) i)) at hHN
            have hrc2 := HK2.out.rc
            have eo : IntKind.i64.wrap ((i : Int) * (c : Int)) = (po : Int) := by
              rw [hpo, ← Int.natCast_mul]; exact IntWalk.i64_in _ (by omega)
            rw [← hqa] at a2
            rw [← hqt] at t2
            rw [← HQ.out] at o2 hbo hrc2
            rw [← hpo] at ox of hbo hHN hHT hHV
            obtain ⟨y, hy⟩ : ∃ y, y = (fillRow c (prodAt n xs zs) i k (fillTo r c (prodAt n xs zs) i)).getD (po + k) 0 := ⟨_, rfl⟩
            rw [← hy] at ox
            have d0 : (0 : Int) ≤ (po : Int) + (k : Int) := by omega
            have d1 : (po : Int) + (k : Int) < (q : Int) := by omega
            have d2 : ((po : Int) + (k : Int)).toNat = po + k := by omega
            have d3 : IntKind.i64.wrap ((po : Int) + (k : Int)) = (po : Int) + (k : Int) := IntWalk.i64_in _ (by omega)
            have HN := Lib.hid hHN
            have HTn := Lib.hid hHT
            have HV := Lib.hid hHV
            have RA := Lib.hid ra
            have RT := Lib.hid rt
            have BA1 := Lib.hid ba1
            have BT1 := Lib.hid bt1
            clear hqa hqt hpa hpa2 hpt hpt2 hpo hy HK2 HT2 HW2 hA2 hB2 hdr hHN hHT hHV ra rt ba1 bt1 hwo
            go_wp2
            go_region_held3 (fun W => W.cell? ⟨ba, 1, none⟩ = some (.int .i64 n) ∧ W.cell? ⟨ba, 2, none⟩ = some (.slice (some ⟨sa, 0, none⟩) qa capa) ∧ W.cell? ⟨bb, 0, none⟩ = some (.int .i64 n) ∧ W.cell? ⟨bb, 1, none⟩ = some (.int .i64 c) ∧ W.cell? ⟨bt, 2, none⟩ = some (.slice (some ⟨st, 0, none⟩) qt capt) ∧ W.cell? ⟨bo, 2, none⟩ = some (.slice (some ⟨so, 0, none⟩) q q)) (first | go_keep | exact ⟨cell_far hna.out _ a1, cell_far hna.out _ a2, cell_far hnb.out _ b0, cell_far hnb.out _ b1, cell_far hnbt.out _ t2, cell_far hno.out _ o2⟩)
              ((go_at_call 38; (refine (dot_le _ _ _ _ n n _ _ _ (RA.out.drewN _) (RT.out.drewN _) BA1.out BT1.out (by omega) (Nat.le_refl _)).mono ?_); rintro e w' ⟨rfl, m, rfl⟩))
            all_goals
              go_wp2
              go_roundw
              case rel => exact ⟨k + 1, by omega, by go_num, Lib.hid (HN.out _), Lib.hid (HTn.out _), Lib.hid (HV.out _)⟩
              case measure => simp [intOf]; omega
          · obtain rfl : k = c := by omega
            go_wp2
            go_roundw
            case rel => exact ⟨i + 1, by omega, by go_num, HK2, HT2, HW2⟩
            case measure => simp [intOf]; omega
      · obtain rfl : i = r := by omega
        go_wp2
        go_ret2
        exact ⟨bo, so, q, rfl, HK.out, HW.out, hbo, hso⟩
end Go.Proofs.Ytelgefkfflgbeaa.Mat
